/-
  RbR, RbP, RbS, SegD, RbF, RbI, RbQ, RbB, RbG, RbL, RbM, RbN in one text (wip/tools/squeeze.py)
-/
import Derived.Laws.MakeOwn
import Derived.Deep.LoopGhost
import Derived.Test.YtjdeeloemhjbhaaGreatQVmEn
import Derived.Test.YtjdeeloemhjbhaaGreatQSeg
import Derived.Test.YtjdeeloemhjbhaaGreatQDuP
import Derived.Test.YtjdeeloemhjbhaaGreatQInp5
import Derived.Test.YtjdeeloemhjbhaaGreatQVmU
import Derived.Test.YtjdeeloemhjbhaaGreatQVmW5
import Derived.Test.YtjdeeloemhjbhaaGreatQVmJ
import Derived.Test.YtjdeeloemhjbhaaGreatQSegU

section
namespace Go.Proofs.YtjdeeloemhjbhaaGreat
open Go.RowKit Go.Sep Go.Oct Go.Vm
set_option linter.unusedSimpArgs false

def stv (l : List VS) : List Value := (l.map svals).flatten
theorem stv_length : ∀ {l : List VS}, (∀ s ∈ l, s.Ok) → (stv l).length = l.length * 20
  | [], _ => rfl
  | s :: r, h => by
    have h1 := svals_length (h s (by simp)).len
    have h2 := stv_length (l := r) (fun x hx => h x (by simp [hx]))
    rw [show stv (s :: r) = svals s ++ stv r from rfl, List.length_append, h1, h2, List.length_cons]
    omega
theorem stv_part : ∀ {l : List VS} {k : Nat} {t : VS}, (∀ s ∈ l, s.Ok) → l[k]? = some t → ((stv l).drop (k * 20)).take 20 = svals t
  | [], k, t, _, h => by simp at h
  | s :: r, 0, t, ho, h => by
    obtain rfl : s = t := by simpa using h
    have hl := svals_length (ho s (by simp)).len
    rw [show stv (s :: r) = svals s ++ stv r from rfl, Nat.zero_mul, List.drop_zero, List.take_left' hl]
  | s :: r, k + 1, t, ho, h => by
    have hl := svals_length (ho s (by simp)).len
    rw [show stv (s :: r) = svals s ++ stv r from rfl, Nat.add_mul, Nat.one_mul, Nat.add_comm, ← List.drop_drop, List.drop_left' hl]
    exact stv_part (fun x hx => ho x (by simp [hx])) (by simpa using h)
theorem stv_put : ∀ {l : List VS} {k : Nat} {t : VS}, (∀ s ∈ l, s.Ok) → k < l.length → (stv l).take (k * 20) ++ svals t ++ (stv l).drop (k * 20 + 20) = stv (l.set k t)
  | [], k, t, _, h => by simp at h
  | s :: r, 0, t, ho, h => by
    have hl := svals_length (ho s (by simp)).len
    rw [show stv (s :: r) = svals s ++ stv r from rfl, Nat.zero_mul, List.take_zero, Nat.zero_add, List.drop_left' hl]
    rfl
  | s :: r, k + 1, t, ho, h => by
    have hl := svals_length (ho s (by simp)).len
    have ih := stv_put (l := r) (k := k) (t := t) (fun x hx => ho x (by simp [hx])) (by simpa using h)
    rw [show stv (s :: r) = svals s ++ stv r from rfl, List.set_cons_succ, show stv (s :: r.set k t) = svals s ++ stv (r.set k t) from rfl, ← ih]
    rw [show (k + 1) * 20 = (svals s).length + k * 20 by omega, List.take_length_add_append, show (svals s).length + k * 20 + 20 = (svals s).length + (k * 20 + 20) by omega, List.drop_length_add_append]
    simp only [List.append_assoc]
theorem zero_ok : VS.zero.Ok := ⟨by simp [VS.zero], fun c hc => by simp only [VS.zero, List.mem_replicate] at hc; omega, by simp [VS.zero], by simp [VS.zero], by simp [VS.zero]⟩
theorem Tryz.infoSt : (Tryz.prog.info? 46).map (fun i => (i.zero, i.size, i.bytes)) = some (some (.agg #[.int .i64 0, .int .i32 0, .int .i32 0, .int .i32 0, .int .i32 0, .int .i32 0, .int .i32 0, .int .i32 0, .int .i32 0, .int .i32 0, .int .i32 0, .int .i32 0, .int .i32 0, .int .i32 0, .int .i32 0, .int .i32 0, .int .i32 0, .int .u32 0, .bool false, .int .i64 0]), 20, 88) := by kernel_rfl
theorem made_s : madeCells (Value.agg #[.int .i64 0, .int .i32 0, .int .i32 0, .int .i32 0, .int .i32 0, .int .i32 0, .int .i32 0, .int .i32 0, .int .i32 0, .int .i32 0, .int .i32 0, .int .i32 0, .int .i32 0, .int .i32 0, .int .i32 0, .int .i32 0, .int .i32 0, .int .u32 0, .bool false, .int .i64 0]).cells (Int.toNat 16 * 20) = (stv (List.replicate 16 VS.zero)).toArray := by kernel_rfl
theorem mk_s (w : World) : (Instr.makeSlice 83 (.int .i64 16) (.int .i64 16)).run Tryz.prog w = .ok (.slice (some ⟨w.heap.size, 0, none⟩) 16 16) (w.alloc (.cells (stv (List.replicate 16 VS.zero)).toArray 46)) := by
  obtain ⟨i0, hi, hz0, hz1, hz2⟩ := info_parts Tryz.infoSt
  have h := run_make (P := Tryz.prog) w 83 46 i0 _ Tryz.underlying83 hi hz0 .i64 .i64 (16 : Int) (16 : Int) (by omega) (by omega) (by rw [hz2]; omega) (by omega)
  rw [h, hz1, made_s]
  rfl

def RG (p : Nat) (l : List VS) (lo hi : Int) : Asn := exA fun pb : Nat => star (blk p [.slice (some ⟨pb, 0, none⟩) 16 16, .int .i64 lo, .int .i64 hi] 103) (blk pb (stv l) 46)
theorem RG_open {W0 w : World} {L : List Asn} {p : Nat} {l : List VS} {lo hi : Int} : Sat W0 w (RG p l lo hi :: L) ↔ ∃ pb, Sat W0 w (blk p [.slice (some ⟨pb, 0, none⟩) 16 16, .int .i64 lo, .int .i64 hi] 103 :: blk pb (stv l) 46 :: L) := by
  unfold RG
  rw [Sat.ex]
  constructor
  · rintro ⟨pb, h⟩; exact ⟨pb, Sat.star.1 h⟩
  · rintro ⟨pb, h⟩; exact ⟨pb, Sat.star.2 h⟩

set_option maxRecDepth 100000 in
theorem ringNew_any {W0 w : World} {L : List Asn} (S : Sat W0 w L) :
    Calls Tryz.prog 29 #[.int .i64 16] w fun e w' => ∃ p, e = .returned (.tuple #[.pointer (some ⟨p, 0, none⟩), .int .i64 0]) ∧ Sat W0 w' (RG p (List.replicate 16 VS.zero) (-1) (-1) :: L) := by
  obtain ⟨Z, hZ⟩ : ∃ Z, stv (List.replicate 16 VS.zero) = Z := ⟨_, rfl⟩
  have hmk := mk_s w
  rw [hZ] at hmk
  have S1 := S.alloc Z 46
  have S2 := S1.alloc [.slice (some ⟨w.heap.size, 0, none⟩) 16 16, .int .i64 (-1), .int .i64 (-1)] 103
  simp only [World.size_alloc] at S2
  have HST := Lib.hid hZ
  clear hZ
  go_enter Tryz.func29, Tryz.ntmps29
  go_wp2_with fail
  go_ret2
  exact ⟨_, rfl, RG_open.2 ⟨_, by rw [HST.out]; exact S2⟩⟩

set_option maxRecDepth 100000 in
set_option maxHeartbeats 1600000 in
theorem ringGet_any {W0 w : World} {L : List Asn} {p : Nat} {l : List VS} {lo hi : Int} (S : Sat W0 w (RG p l lo hi :: L)) (_hl : l.length = 16) (hok : ∀ s ∈ l, s.Ok) {f : Nat} (h1 : lo ≤ f) (h2 : (f : Int) ≤ hi) {t : VS} (ht : l[f % 16]? = some t) :
    Calls Tryz.prog 50 #[.pointer (some ⟨p, 0, none⟩), .int .i64 f] w fun e w' => e = .returned (.tuple #[.agg (svals t).toArray, .bool true]) ∧ Sat W0 w' (RG p l lo hi :: L) := by
  obtain ⟨pb, Sx⟩ := RG_open.1 S
  have S1 := Sx.alloc [.int .i64 0, .int .i32 0, .int .i32 0, .int .i32 0, .int .i32 0, .int .i32 0, .int .i32 0, .int .i32 0, .int .i32 0, .int .i32 0, .int .i32 0, .int .i32 0, .int .i32 0, .int .i32 0, .int .i32 0, .int .i32 0, .int .i32 0, .int .u32 0, .bool false, .int .i64 0] 46
  have hto := hok t (List.mem_of_getElem? ht)
  have HTL := Lib.hid (svals_length hto.len)
  have hd0 : decide (hi < 0) = false := decide_eq_false (by omega)
  have hd1 : decide ((f : Int) < lo) = false := decide_eq_false (by omega)
  have hd2 : decide (hi < (f : Int)) = false := decide_eq_false (by omega)
  obtain ⟨k, hk⟩ : ∃ k : Nat, f % 16 = k := ⟨_, rfl⟩
  have hk16 : k < 16 := by omega
  have hk0 : (0 : Int) ≤ (k : Int) := by omega
  have hk1 : (k : Int) < 16 := by omega
  have hrem : Int.tmod (f : Int) 16 = (k : Int) := by rw [Int.tmod_eq_emod_of_nonneg (by omega)]; omega
  rw [hk] at ht
  have HC := Lib.hid (fun (w' : World) (M : List Asn) (h : Sat W0 w' (blk pb (stv l) 46 :: M)) => show ∀ j, j < 20 → w'.cell? ⟨pb, k * 20 + j, none⟩ = (svals t)[j]? from fun j hj => by
    rw [h.cell 0 rfl, ← stv_part hok ht, List.getElem?_take, if_pos hj, List.getElem?_drop])
  clear ht hk hok h1 h2 S Sx
  have hc1 := S1.cell 1 rfl 1
  have hc2 := S1.cell 1 rfl 2
  simp only [List.getElem?_cons_zero, List.getElem?_cons_succ] at hc1 hc2
  go_enter Tryz.func50, Tryz.ntmps50
  go_upto_region 3 with fail
  clear hc1 hc2 hd0 hd1 hd2
  refine wp_region_drawn (N := 15) (LN := #[false, false, false, false, false, false, false, false, false, false, false, false, false, false, false]) (by kernel_rfl) (by kernel_rfl) (by kernel_rfl) ?_
  have S2 := S1.drew
  change Sat W0 (w.alloc _).drew _ at S2
  generalize World.drew (World.alloc w _) = w2 at S2 ⊢
  generalize w.heap.size = z at S2 ⊢
  clear S1
  have hc0 := S2.cell 1 rfl 0
  simp only [List.getElem?_cons_zero, List.getElem?_cons_succ] at hc0
  refine wpAny_seg 0 13 2 15 #[true, true, true, true, true, true, true, true, true, true, true, true, true, false, false] (by kernel_rfl) (by kernel_rfl) ?_
  simp only [List.take_succ_cons, List.take_zero, List.drop_succ_cons, List.drop_zero]
  refine wpStill_step (fun K hK => ?_); go_simp; refine hK _ ?_; clear hK K
  try simp only [Act.put, List.getElem_toArray, List.getElem_cons_zero, List.getElem_cons_succ, List.setIfInBounds_toArray, List.set_cons_zero, List.set_cons_succ]
  refine wpStill_step (fun K hK => ?_); go_simp; refine hK _ ?_; clear hK K
  try simp only [Act.put, List.getElem_toArray, List.getElem_cons_zero, List.getElem_cons_succ, List.setIfInBounds_toArray, List.set_cons_zero, List.set_cons_succ]
  refine wpStill_step (fun K hK => ?_); go_simp; refine hK _ ?_; clear hK K
  try simp only [Act.put, List.getElem_toArray, List.getElem_cons_zero, List.getElem_cons_succ, List.setIfInBounds_toArray, List.set_cons_zero, List.set_cons_succ]
  refine wpStill_step (fun K hK => ?_); go_simp; refine hK _ ?_; clear hK K
  try simp only [Act.put, List.getElem_toArray, List.getElem_cons_zero, List.getElem_cons_succ, List.setIfInBounds_toArray, List.set_cons_zero, List.set_cons_succ]
  refine wpStill_step (fun K hK => ?_); go_simp; refine hK _ ?_; clear hK K
  try simp only [Act.put, List.getElem_toArray, List.getElem_cons_zero, List.getElem_cons_succ, List.setIfInBounds_toArray, List.set_cons_zero, List.set_cons_succ]
  refine wpStill_step (fun K hK => ?_); go_simp; refine hK _ ?_; clear hK K
  try simp only [Act.put, List.getElem_toArray, List.getElem_cons_zero, List.getElem_cons_succ, List.setIfInBounds_toArray, List.set_cons_zero, List.set_cons_succ]
  refine wpStill_step (fun K hK => ?_); go_simp; refine hK _ ?_; clear hK K
  try simp only [Act.put, List.getElem_toArray, List.getElem_cons_zero, List.getElem_cons_succ, List.setIfInBounds_toArray, List.set_cons_zero, List.set_cons_succ]
  refine wpStill_step (fun K hK => ?_); go_simp; refine hK _ ?_; clear hK K
  try simp only [Act.put, List.getElem_toArray, List.getElem_cons_zero, List.getElem_cons_succ, List.setIfInBounds_toArray, List.set_cons_zero, List.set_cons_succ]
  refine wpStill_step (fun K hK => ?_); go_simp; refine hK _ ?_; clear hK K
  try simp only [Act.put, List.getElem_toArray, List.getElem_cons_zero, List.getElem_cons_succ, List.setIfInBounds_toArray, List.set_cons_zero, List.set_cons_succ]
  refine wpStill_step (fun K hK => ?_); go_simp; refine hK _ ?_; clear hK K
  try simp only [Act.put, List.getElem_toArray, List.getElem_cons_zero, List.getElem_cons_succ, List.setIfInBounds_toArray, List.set_cons_zero, List.set_cons_succ]
  refine wpStill_step (fun K hK => ?_); go_simp; refine hK _ ?_; clear hK K
  try simp only [Act.put, List.getElem_toArray, List.getElem_cons_zero, List.getElem_cons_succ, List.setIfInBounds_toArray, List.set_cons_zero, List.set_cons_succ]
  refine wpStill_step (fun K hK => ?_); go_simp; refine hK _ ?_; clear hK K
  try simp only [Act.put, List.getElem_toArray, List.getElem_cons_zero, List.getElem_cons_succ, List.setIfInBounds_toArray, List.set_cons_zero, List.set_cons_succ]
  refine wpStill_step (fun K hK => ?_); refine still_load_part rfl 46 _ rfl (n := 20) rfl (HC.out _ _ (S2.sel [2])) HTL.out Tryz.underlying46 rfl Tryz.sizeS ?_; refine hK _ ?_; clear hK K
  try simp only [Act.put, List.getElem_toArray, List.getElem_cons_zero, List.getElem_cons_succ, List.setIfInBounds_toArray, List.set_cons_zero, List.set_cons_succ]
  refine wpStill_nil ?_
  refine wpAny_one (i := 13) (LN := #[true, true, true, true, true, true, true, true, true, true, true, true, true, true, false]) (by kernel_rfl) rfl (by kernel_rfl) ?_
  intro K hK
  refine step_store_sat (off := 0) (n := 20) rfl 46 _ _ rfl S2 rfl rfl HTL.out (by decide) Tryz.sizeS (svals_one t) ?_
  intro w3 S3
  rw [zstore] at S3
  refine hK.out _ _ ?_
  clear hK K
  try simp only [Act.put, List.getElem_toArray, List.getElem_cons_zero, List.getElem_cons_succ, List.setIfInBounds_toArray, List.set_cons_zero, List.set_cons_succ]
  refine wpAny_loc (i := 14) (v := ?_) (LN := #[true, true, true, true, true, true, true, true, true, true, true, true, true, true, true]) rfl (by kernel_rfl) (by kernel_rfl) (by kernel_rfl) (fun _ _ _ h => h) (by kernel_rfl) (by rfl) ?_ ?_
  rotate_left
  · intro w; first | (go_simp; done) | (go_simp; with_reducible rfl)
  try simp only [Act.put, List.getElem_toArray, List.getElem_cons_zero, List.getElem_cons_succ, List.setIfInBounds_toArray, List.set_cons_zero, List.set_cons_succ]
  refine ⟨by kernel_rfl, ?_⟩
  try simp only [Act.put, List.getElem_toArray, List.getElem_cons_zero, List.getElem_cons_succ, List.setIfInBounds_toArray, List.set_cons_zero, List.set_cons_succ]
  go_wp2_with fail
  exact bodyPost_ret (results_cell_tmp_sat rfl _ S3 rfl Tryz.underlying46 rfl (by rw [HTL.out]; exact Tryz.sizeS) rfl) rfl ⟨rfl, RG_open.2 ⟨pb, S3.tail⟩⟩

/-- the least frame that stays -/
def ringLo (lo hi f : Int) : Int := max (if hi < 0 then f else lo) (f - 15)
set_option maxRecDepth 100000 in
set_option maxHeartbeats 3200000 in
theorem ringPut_any {W0 w : World} {L : List Asn} {p : Nat} {l : List VS} {lo hi : Int} (S : Sat W0 w (RG p l lo hi :: L)) (hl : l.length = 16) (hok : ∀ s ∈ l, s.Ok) {s : VS} (hso : s.Ok) (his : isP s = true) (hlh : hi < 0 ∨ (0 ≤ lo ∧ lo ≤ s.frame ∧ s.frame ≤ hi + 1)) (hhi : hi ≤ 10000) {f : Nat} (hf : s.frame = f) :
    Calls Tryz.prog 30 #[.pointer (some ⟨p, 0, none⟩), .agg (svals s).toArray] w fun e w' => e = .returned (.int .i64 0) ∧ Sat W0 w' (RG p (l.set (f % 16) s) (ringLo lo hi f) f :: L) := by
  obtain ⟨pb, Sx⟩ := RG_open.1 S
  have S1 := Sx.alloc (svals s) 46
  have hi2 := his
  unfold isP at hi2
  simp only [Bool.and_eq_true, decide_eq_true_eq] at hi2
  have hf600 : f ≤ 600 := by omega
  have HTL := Lib.hid (svals_length hso.len)
  have HSO := Lib.hid hso
  have HDE := Lib.hid (decP_encP hso his (by omega))
  have HEB : Hid (Bytes (encP s)) := by
    show Bytes _
    unfold encP
    refine ((((num_bytes hso.frame.1 hso.frame.2).append (foursP_bytes _)).append (fourP_bytes hso.seed)).append ?_).append ?_
    · intro x hx; simp only [List.mem_singleton] at hx; split at hx <;> omega
    · intro x hx; simp only [List.mem_singleton] at hx; omega
  have hel : (encP s).length ≤ 200 := by
    unfold encP
    simp only [List.length_append, foursP_length, hso.len, List.length_cons, List.length_nil]
    have := num_length s.frame
    have : (fourP s.seed).length = 4 := rfl
    omega
  have hb0 : decide (s.winner < 0) = false := decide_eq_false (by omega)
  have hb2 : decide ((2 : Int) < s.winner) = false := decide_eq_false (by omega)
  have hA := st_at hso.len S1
  have cF := hA.frame
  have cW := hA.winner
  rw [hf] at cF
  clear hA
  obtain ⟨k, hk⟩ : ∃ k : Nat, f % 16 = k := ⟨_, rfl⟩
  have hk16 : k < 16 := by omega
  have hk0 : (0 : Int) ≤ (k : Int) := by omega
  have hk1 : (k : Int) < 16 := by omega
  have hrem : Int.tmod (f : Int) 16 = (k : Int) := by rw [Int.tmod_eq_emod_of_nonneg (by omega)]; omega
  have HPT := Lib.hid (stv_put (t := s) hok (show k < l.length by omega))
  have HLEN := Lib.hid (stv_length hok)
  have HL := Lib.hid hl
  rw [hk]
  have hc2 := S1.cell 1 rfl 2
  simp only [List.getElem?_cons_zero, List.getElem?_cons_succ] at hc2
  have hwf : IntKind.i64.wrap ((f : Int) - 16) = (f : Int) - 16 := by rw [IntKind.wrap_i64]; omega
  have hwf1 : IntKind.i64.wrap ((f : Int) - 16 + 1) = (f : Int) - 16 + 1 := by rw [IntKind.wrap_i64]; omega
  have hc0 := S1.cell 1 rfl 0
  simp only [List.getElem?_cons_zero, List.getElem?_cons_succ] at hc0
  clear hk hok hl his hi2 S Sx hso
  go_enter Tryz.func30, Tryz.ntmps30
  go_upto_region 4 with (first
    | (refine wpList_load_part rfl 46 _ rfl (n := 20) rfl (Sat.whole S1 20) HTL.out Tryz.underlying46 rfl Tryz.sizeS ?_)
    | (refine wpList_store_sat (off := 0) (n := 20) rfl 46 _ _ rfl S4 rfl rfl HTL.out (by decide) Tryz.sizeS (svals_one s) ?_; intro w5 S5; rw [zstore] at S5)
    | (go_at_call 47; refine (vEncode_any S1 HSO.out).mono ?_; unfold GivesE; rintro e w2 ⟨a2, c2, rfl, S2⟩)
    | (go_at_call 46; refine (vDecode_any S2 S2.own_rd rfl (sbs_rd S2).2.2.2 HEB.out (by omega)).mono ?_; unfold Stepped; rintro e w3 ⟨rfl, S3⟩; rw [HDE.out]; have S4 := S3.alloc [.int .i64 0, .int .i32 0, .int .i32 0, .int .i32 0, .int .i32 0, .int .i32 0, .int .i32 0, .int .i32 0, .int .i32 0, .int .i32 0, .int .i32 0, .int .i32 0, .int .i32 0, .int .i32 0, .int .i32 0, .int .i32 0, .int .i32 0, .int .u32 0, .bool false, .int .i64 0] 46))
  have S6 : Sat W0 w5 (blk w.heap.size (svals s) 46 :: blk p [.slice (some ⟨pb, 0, none⟩) 16 16, .int .i64 lo, .int .i64 hi] 103 :: blk pb (stv l) 46 :: L) := S5.tail.tail
  clear cF cW hc2 hc0 S1 S2 S3 S4 S5
  generalize w.heap.size = z at S6 ⊢
  have HF : Hid (s.frame = f) := hf
  clear hf
  have HCF := Lib.hid (fun (w' : World) (M : List Asn) (h : Sat W0 w' (blk z (svals s) 46 :: M)) => show w'.cell? ⟨z, 0, none⟩ = some (.int .i64 f) ∧ w'.cell? ⟨z, 19, none⟩ = some (.int .i64 s.winner) from by
    have hA := st_at HSO.out.len h
    exact ⟨by rw [hA.frame, HF.out], hA.winner⟩)
  obtain ⟨cF, cW⟩ := HCF.out _ _ S6
  have hc2 := S6.cell 1 rfl 2
  have hc1 := S6.cell 1 rfl 1
  have hz1 := S6.frozen 1 rfl 1
  simp only [List.getElem?_cons_zero, List.getElem?_cons_succ] at hc2 hc1
  obtain ⟨lo2, hlo2⟩ : ∃ lo2, (if hi < 0 then (f : Int) else lo) = lo2 := ⟨_, rfl⟩
  obtain ⟨mx, hmx⟩ : ∃ mx, (if lo2 < (f : Int) - 16 + 1 then (f : Int) - 16 + 1 else lo2) = mx := ⟨_, rfl⟩
  have hlr : ringLo lo hi f = mx := by unfold ringLo; rw [hlo2, ← hmx]; split <;> omega
  have HMX := Lib.hid hmx
  clear hmx
  have HLR := Lib.hid hlr
  clear hlr
  by_cases hneg : hi < 0
  focus
    have hd : decide (hi < 0) = true := decide_eq_true hneg
    rw [if_pos hneg] at hlo2
    have HLO := Lib.hid hlo2
    clear hlo2
    go_upto_region 10 with fail
    have S7 := S6.setCell (k := 1) (v := .int .i64 f) 1 rfl
    generalize World.setCell w5 _ _ = w7 at S7 ⊢
    have S8 : Sat W0 w7 (blk z (svals s) 46 :: blk p [.slice (some ⟨pb, 0, none⟩) 16 16, .int .i64 lo2, .int .i64 hi] 103 :: blk pb (stv l) 46 :: L) := by rw [← HLO.out]; exact S7
    clear S7 S6 cF cW hc2 hc1 hz1 hd
  rotate_left
  focus
    have hd : decide (hi < 0) = false := decide_eq_false hneg
    rw [if_neg hneg] at hlo2
    have HLO := Lib.hid hlo2
    clear hlo2
    have hwh : IntKind.i64.wrap (hi + 1) = hi + 1 := by rw [IntKind.wrap_i64]; omega
    have hfd1 : decide ((f : Int) < lo) = false := decide_eq_false (by have := HF.out; omega)
    have hfd2 : decide (hi + 1 < (f : Int)) = false := decide_eq_false (by have := HF.out; omega)
    go_upto_region 8 with fail
    clear cF cW hc2 hc1 hz1 hd
    refine wp_region_drawn (N := 18) (LN := #[false, false, false, false, false, false, false, false, false, false, false, false, false, false, false, false, false, false]) (by kernel_rfl) (by kernel_rfl) (by kernel_rfl) ?_
    have S7 := S6.drew
    generalize w5.drew = w7 at S7 ⊢
    clear S6
    refine wpAny_held (fun w' => w'.cell? ⟨z, 0, none⟩ = some (.int .i64 f) ∧ w'.cell? ⟨p, 1, none⟩ = some (.int .i64 lo) ∧ w'.cell? ⟨p, 2, none⟩ = some (.int .i64 hi)) ⟨(HCF.out _ _ S7).1, (S7.cell 1 rfl 1 : _), (S7.cell 1 rfl 2 : _)⟩ (fun hHeld => ?_)
    refine wpAnyH_tk (i := 0) (v := ?_) (LN := #[true, false, false, false, false, false, false, false, false, false, false, false, false, false, false, false, false, false]) rfl (by kernel_rfl) (by kernel_rfl) (by kernel_rfl) (fun _ _ _ h => h) (by kernel_rfl) (by rfl) (by assumption) ?_ ?_
    rotate_left
    · intro w hSw; (try dsimp only at hSw); first | (go_simp; done) | (go_simp; with_reducible rfl)
    try simp only [Act.put, List.getElem_toArray, List.getElem_cons_zero, List.getElem_cons_succ, List.setIfInBounds_toArray, List.set_cons_zero, List.set_cons_succ]
    refine wpAnyH_tk (i := 1) (v := ?_) (LN := #[true, true, false, false, false, false, false, false, false, false, false, false, false, false, false, false, false, false]) rfl (by kernel_rfl) (by kernel_rfl) (by kernel_rfl) (fun _ _ _ h => h) (by kernel_rfl) (by rfl) (by assumption) ?_ ?_
    rotate_left
    · intro w hSw; (try dsimp only at hSw); first | (go_simp; done) | (go_simp; with_reducible rfl)
    try simp only [Act.put, List.getElem_toArray, List.getElem_cons_zero, List.getElem_cons_succ, List.setIfInBounds_toArray, List.set_cons_zero, List.set_cons_succ]
    refine wpAnyH_tk (i := 2) (v := ?_) (LN := #[true, true, true, false, false, false, false, false, false, false, false, false, false, false, false, false, false, false]) rfl (by kernel_rfl) (by kernel_rfl) (by kernel_rfl) (fun _ _ _ h => h) (by kernel_rfl) (by rfl) (by assumption) ?_ ?_
    rotate_left
    · intro w hSw; (try dsimp only at hSw); first | (go_simp; done) | (go_simp; with_reducible rfl)
    try simp only [Act.put, List.getElem_toArray, List.getElem_cons_zero, List.getElem_cons_succ, List.setIfInBounds_toArray, List.set_cons_zero, List.set_cons_succ]
    refine wpAnyH_tk (i := 3) (v := ?_) (LN := #[true, true, true, true, false, false, false, false, false, false, false, false, false, false, false, false, false, false]) rfl (by kernel_rfl) (by kernel_rfl) (by kernel_rfl) (fun _ _ _ h => h) (by kernel_rfl) (by rfl) (by assumption) ?_ ?_
    rotate_left
    · intro w hSw; (try dsimp only at hSw); first | (go_simp; done) | (go_simp; with_reducible rfl)
    try simp only [Act.put, List.getElem_toArray, List.getElem_cons_zero, List.getElem_cons_succ, List.setIfInBounds_toArray, List.set_cons_zero, List.set_cons_succ]
    refine wpAnyH_tk (i := 4) (v := ?_) (LN := #[true, true, true, true, true, false, false, false, false, false, false, false, false, false, false, false, false, false]) rfl (by kernel_rfl) (by kernel_rfl) (by kernel_rfl) (fun _ _ _ h => h) (by kernel_rfl) (by rfl) (by assumption) ?_ ?_
    rotate_left
    · intro w hSw; (try dsimp only at hSw); first | (go_simp; done) | (go_simp; with_reducible rfl)
    try simp only [Act.put, List.getElem_toArray, List.getElem_cons_zero, List.getElem_cons_succ, List.setIfInBounds_toArray, List.set_cons_zero, List.set_cons_succ]
    refine wpAnyH_tk (i := 5) (v := ?_) (LN := #[true, true, true, true, true, true, false, false, false, false, false, false, false, false, false, false, false, false]) rfl (by kernel_rfl) (by kernel_rfl) (by kernel_rfl) (fun _ _ _ h => h) (by kernel_rfl) (by rfl) (by assumption) ?_ ?_
    rotate_left
    · intro w hSw; (try dsimp only at hSw); first | (go_simp; done) | (go_simp; with_reducible rfl)
    try simp only [Act.put, List.getElem_toArray, List.getElem_cons_zero, List.getElem_cons_succ, List.setIfInBounds_toArray, List.set_cons_zero, List.set_cons_succ]
    refine wpAnyH_tk (i := 6) (v := ?_) (LN := #[true, true, true, true, true, true, true, false, false, false, false, false, false, false, false, false, false, false]) rfl (by kernel_rfl) (by kernel_rfl) (by kernel_rfl) (fun _ _ _ h => h) (by kernel_rfl) (by rfl) (by assumption) ?_ ?_
    rotate_left
    · intro w hSw; (try dsimp only at hSw); first | (go_simp; done) | (go_simp; with_reducible rfl)
    try simp only [Act.put, List.getElem_toArray, List.getElem_cons_zero, List.getElem_cons_succ, List.setIfInBounds_toArray, List.set_cons_zero, List.set_cons_succ]
    refine wpAnyH_tk (i := 7) (v := ?_) (LN := #[true, true, true, true, true, true, true, true, false, false, false, false, false, false, false, false, false, false]) rfl (by kernel_rfl) (by kernel_rfl) (by kernel_rfl) (fun _ _ _ h => h) (by kernel_rfl) (by rfl) (by assumption) ?_ ?_
    rotate_left
    · intro w hSw; (try dsimp only at hSw); first | (go_simp; done) | (go_simp; with_reducible rfl)
    try simp only [Act.put, List.getElem_toArray, List.getElem_cons_zero, List.getElem_cons_succ, List.setIfInBounds_toArray, List.set_cons_zero, List.set_cons_succ]
    refine wpAnyH_tk (i := 8) (v := ?_) (LN := #[true, true, true, true, true, true, true, true, true, false, false, false, false, false, false, false, false, false]) rfl (by kernel_rfl) (by kernel_rfl) (by kernel_rfl) (fun _ _ _ h => h) (by kernel_rfl) (by rfl) (by assumption) ?_ ?_
    rotate_left
    · intro w hSw; (try dsimp only at hSw); first | (go_simp; done) | (go_simp; with_reducible rfl)
    try simp only [Act.put, List.getElem_toArray, List.getElem_cons_zero, List.getElem_cons_succ, List.setIfInBounds_toArray, List.set_cons_zero, List.set_cons_succ]
    refine wpAnyH_tk (i := 9) (v := ?_) (LN := #[true, true, true, true, true, true, true, true, true, true, false, false, false, false, false, false, false, false]) rfl (by kernel_rfl) (by kernel_rfl) (by kernel_rfl) (fun _ _ _ h => h) (by kernel_rfl) (by rfl) (by assumption) ?_ ?_
    rotate_left
    · intro w hSw; (try dsimp only at hSw); first | (go_simp; done) | (go_simp; with_reducible rfl)
    try simp only [Act.put, List.getElem_toArray, List.getElem_cons_zero, List.getElem_cons_succ, List.setIfInBounds_toArray, List.set_cons_zero, List.set_cons_succ]
    refine wpAnyH_tk (i := 10) (v := ?_) (LN := #[true, true, true, true, true, true, true, true, true, true, true, false, false, false, false, false, false, false]) rfl (by kernel_rfl) (by kernel_rfl) (by kernel_rfl) (fun _ _ _ h => h) (by kernel_rfl) (by rfl) (by assumption) ?_ ?_
    rotate_left
    · intro w hSw; (try dsimp only at hSw); first | (go_simp; done) | (go_simp; with_reducible rfl)
    try simp only [Act.put, List.getElem_toArray, List.getElem_cons_zero, List.getElem_cons_succ, List.setIfInBounds_toArray, List.set_cons_zero, List.set_cons_succ]
    refine wpAnyH_tk (i := 11) (v := ?_) (LN := #[true, true, true, true, true, true, true, true, true, true, true, true, false, false, false, false, false, false]) rfl (by kernel_rfl) (by kernel_rfl) (by kernel_rfl) (fun _ _ _ h => h) (by kernel_rfl) (by rfl) (by assumption) ?_ ?_
    rotate_left
    · intro w hSw; (try dsimp only at hSw); first | (go_simp; done) | (go_simp; with_reducible rfl)
    try simp only [Act.put, List.getElem_toArray, List.getElem_cons_zero, List.getElem_cons_succ, List.setIfInBounds_toArray, List.set_cons_zero, List.set_cons_succ]
    refine wpAnyH_tk (i := 12) (v := ?_) (LN := #[true, true, true, true, true, true, true, true, true, true, true, true, true, false, false, false, false, false]) rfl (by kernel_rfl) (by kernel_rfl) (by kernel_rfl) (fun _ _ _ h => h) (by kernel_rfl) (by rfl) (by assumption) ?_ ?_
    rotate_left
    · intro w hSw; (try dsimp only at hSw); first | (go_simp; done) | (go_simp; with_reducible rfl)
    try simp only [Act.put, List.getElem_toArray, List.getElem_cons_zero, List.getElem_cons_succ, List.setIfInBounds_toArray, List.set_cons_zero, List.set_cons_succ]
    refine wpAnyH_tk (i := 13) (v := ?_) (LN := #[true, true, true, true, true, true, true, true, true, true, true, true, true, true, false, false, false, false]) rfl (by kernel_rfl) (by kernel_rfl) (by kernel_rfl) (fun _ _ _ h => h) (by kernel_rfl) (by rfl) (by assumption) ?_ ?_
    rotate_left
    · intro w hSw; (try dsimp only at hSw); first | (go_simp; done) | (go_simp; with_reducible rfl)
    try simp only [Act.put, List.getElem_toArray, List.getElem_cons_zero, List.getElem_cons_succ, List.setIfInBounds_toArray, List.set_cons_zero, List.set_cons_succ]
    refine wpAnyH_tk (i := 14) (v := ?_) (LN := #[true, true, true, true, true, true, true, true, true, true, true, true, true, true, true, false, false, false]) rfl (by kernel_rfl) (by kernel_rfl) (by kernel_rfl) (fun _ _ _ h => h) (by kernel_rfl) (by rfl) (by assumption) ?_ ?_
    rotate_left
    · intro w hSw; (try dsimp only at hSw); first | (go_simp; done) | (go_simp; with_reducible rfl)
    try simp only [Act.put, List.getElem_toArray, List.getElem_cons_zero, List.getElem_cons_succ, List.setIfInBounds_toArray, List.set_cons_zero, List.set_cons_succ]
    refine wpAnyH_tk (i := 15) (v := ?_) (LN := #[true, true, true, true, true, true, true, true, true, true, true, true, true, true, true, true, false, false]) rfl (by kernel_rfl) (by kernel_rfl) (by kernel_rfl) (fun _ _ _ h => h) (by kernel_rfl) (by rfl) (by assumption) ?_ ?_
    rotate_left
    · intro w hSw; (try dsimp only at hSw); first | (go_simp; done) | (go_simp; with_reducible rfl)
    try simp only [Act.put, List.getElem_toArray, List.getElem_cons_zero, List.getElem_cons_succ, List.setIfInBounds_toArray, List.set_cons_zero, List.set_cons_succ]
    refine wpAnyH_tk (i := 16) (v := ?_) (LN := #[true, true, true, true, true, true, true, true, true, true, true, true, true, true, true, true, true, false]) rfl (by kernel_rfl) (by kernel_rfl) (by kernel_rfl) (fun _ _ _ h => h) (by kernel_rfl) (by rfl) (by assumption) ?_ ?_
    rotate_left
    · intro w hSw; (try dsimp only at hSw); first | (go_simp; done) | (go_simp; with_reducible rfl)
    try simp only [Act.put, List.getElem_toArray, List.getElem_cons_zero, List.getElem_cons_succ, List.setIfInBounds_toArray, List.set_cons_zero, List.set_cons_succ]
    refine wpAnyH_tk (i := 17) (v := ?_) (LN := #[true, true, true, true, true, true, true, true, true, true, true, true, true, true, true, true, true, true]) rfl (by kernel_rfl) (by kernel_rfl) (by kernel_rfl) (fun _ _ _ h => h) (by kernel_rfl) (by rfl) (by assumption) ?_ ?_
    rotate_left
    · intro w hSw; (try dsimp only at hSw); first | (go_simp; done) | (go_simp; with_reducible rfl)
    try simp only [Act.put, List.getElem_toArray, List.getElem_cons_zero, List.getElem_cons_succ, List.setIfInBounds_toArray, List.set_cons_zero, List.set_cons_succ]
    refine ⟨by kernel_rfl, ?_⟩
    try simp only [Act.put, List.getElem_toArray, List.getElem_cons_zero, List.getElem_cons_succ, List.setIfInBounds_toArray, List.set_cons_zero, List.set_cons_succ]
    have S8 := S7
    rw [HLO.out] at S8
    clear S7 hfd1 hfd2 hwh
    go_upto_region 10 with fail
  all_goals
    refine wp_region_drawn (N := 15) (LN := #[false, false, false, false, false, false, false, false, false, false, false, false, false, false, false]) (by kernel_rfl) (by kernel_rfl) (by kernel_rfl) ?_
    have S9 := S8.drew
    generalize w7.drew = w9 at S9 ⊢
    clear S8
    obtain ⟨cF, cW⟩ := HCF.out _ _ S9
    have hc0 := S9.cell 1 rfl 0
    simp only [List.getElem?_cons_zero, List.getElem?_cons_succ] at hc0
    refine wpAny_seg 0 14 1 15 #[true, true, true, true, true, true, true, true, true, true, true, true, true, true, false] (by kernel_rfl) (by kernel_rfl) ?_
    simp only [List.take_succ_cons, List.take_zero, List.drop_succ_cons, List.drop_zero]
    refine wpStill_step (fun K hK => ?_); go_simp; refine hK _ ?_; clear hK K
    try simp only [Act.put, List.getElem_toArray, List.getElem_cons_zero, List.getElem_cons_succ, List.setIfInBounds_toArray, List.set_cons_zero, List.set_cons_succ]
    refine wpStill_step (fun K hK => ?_); go_simp; refine hK _ ?_; clear hK K
    try simp only [Act.put, List.getElem_toArray, List.getElem_cons_zero, List.getElem_cons_succ, List.setIfInBounds_toArray, List.set_cons_zero, List.set_cons_succ]
    refine wpStill_step (fun K hK => ?_); go_simp; refine hK _ ?_; clear hK K
    try simp only [Act.put, List.getElem_toArray, List.getElem_cons_zero, List.getElem_cons_succ, List.setIfInBounds_toArray, List.set_cons_zero, List.set_cons_succ]
    refine wpStill_step (fun K hK => ?_); go_simp; refine hK _ ?_; clear hK K
    try simp only [Act.put, List.getElem_toArray, List.getElem_cons_zero, List.getElem_cons_succ, List.setIfInBounds_toArray, List.set_cons_zero, List.set_cons_succ]
    refine wpStill_step (fun K hK => ?_); go_simp; refine hK _ ?_; clear hK K
    try simp only [Act.put, List.getElem_toArray, List.getElem_cons_zero, List.getElem_cons_succ, List.setIfInBounds_toArray, List.set_cons_zero, List.set_cons_succ]
    refine wpStill_step (fun K hK => ?_); go_simp; refine hK _ ?_; clear hK K
    try simp only [Act.put, List.getElem_toArray, List.getElem_cons_zero, List.getElem_cons_succ, List.setIfInBounds_toArray, List.set_cons_zero, List.set_cons_succ]
    refine wpStill_step (fun K hK => ?_); go_simp; refine hK _ ?_; clear hK K
    try simp only [Act.put, List.getElem_toArray, List.getElem_cons_zero, List.getElem_cons_succ, List.setIfInBounds_toArray, List.set_cons_zero, List.set_cons_succ]
    refine wpStill_step (fun K hK => ?_); go_simp; refine hK _ ?_; clear hK K
    try simp only [Act.put, List.getElem_toArray, List.getElem_cons_zero, List.getElem_cons_succ, List.setIfInBounds_toArray, List.set_cons_zero, List.set_cons_succ]
    refine wpStill_step (fun K hK => ?_); go_simp; refine hK _ ?_; clear hK K
    try simp only [Act.put, List.getElem_toArray, List.getElem_cons_zero, List.getElem_cons_succ, List.setIfInBounds_toArray, List.set_cons_zero, List.set_cons_succ]
    refine wpStill_step (fun K hK => ?_); go_simp; refine hK _ ?_; clear hK K
    try simp only [Act.put, List.getElem_toArray, List.getElem_cons_zero, List.getElem_cons_succ, List.setIfInBounds_toArray, List.set_cons_zero, List.set_cons_succ]
    refine wpStill_step (fun K hK => ?_); go_simp; refine hK _ ?_; clear hK K
    try simp only [Act.put, List.getElem_toArray, List.getElem_cons_zero, List.getElem_cons_succ, List.setIfInBounds_toArray, List.set_cons_zero, List.set_cons_succ]
    refine wpStill_step (fun K hK => ?_); go_simp; refine hK _ ?_; clear hK K
    try simp only [Act.put, List.getElem_toArray, List.getElem_cons_zero, List.getElem_cons_succ, List.setIfInBounds_toArray, List.set_cons_zero, List.set_cons_succ]
    refine wpStill_step (fun K hK => ?_); refine still_load_part rfl 46 _ rfl (n := 20) rfl (Sat.whole S9 20) HTL.out Tryz.underlying46 rfl (by kernel_rfl) ?_; refine hK _ ?_; clear hK K
    try simp only [Act.put, List.getElem_toArray, List.getElem_cons_zero, List.getElem_cons_succ, List.setIfInBounds_toArray, List.set_cons_zero, List.set_cons_succ]
    refine wpStill_step (fun K hK => ?_); go_simp; refine hK _ ?_; clear hK K
    try simp only [Act.put, List.getElem_toArray, List.getElem_cons_zero, List.getElem_cons_succ, List.setIfInBounds_toArray, List.set_cons_zero, List.set_cons_succ]
    refine wpStill_nil ?_
    refine wpAny_one (i := 14) (LN := #[true, true, true, true, true, true, true, true, true, true, true, true, true, true, true]) (by kernel_rfl) rfl (by kernel_rfl) ?_
    intro K hK
    refine step_store_sat (off := k * 20) (n := 20) rfl 46 _ _ rfl (S9.sel [2]) rfl rfl HTL.out (by rw [HLEN.out, HL.out]; omega) Tryz.sizeS (svals_one s) ?_
    intro w10 S10
    rw [HPT.out] at S10
    refine hK.out _ _ ?_
    clear hK K
    try simp only [Act.put, List.getElem_toArray, List.getElem_cons_zero, List.getElem_cons_succ, List.setIfInBounds_toArray, List.set_cons_zero, List.set_cons_succ]
    refine ⟨by kernel_rfl, ?_⟩
    try simp only [Act.put, List.getElem_toArray, List.getElem_cons_zero, List.getElem_cons_succ, List.setIfInBounds_toArray, List.set_cons_zero, List.set_cons_succ]
    clear cF cW hc0 S9
    obtain ⟨cF, cW⟩ := HCF.out _ _ (S10.sel [1])
    have hz2 := S10.frozen 2 rfl 2
    have hc2 := S10.cell 2 rfl 2
    simp only [List.getElem?_cons_zero, List.getElem?_cons_succ] at hc2
    go_upto_region 12 with fail
    have S11 := S10.setCell (k := 2) (v := .int .i64 f) 2 rfl
    generalize World.setCell w10 _ _ = w11 at S11 ⊢
    clear cF cW hz2 hc2 S10
    refine wp_region_drawn (N := 20) (LN := #[false, false, false, false, false, false, false, false, false, false, false, false, false, false, false, false, false, false, false, false]) (by kernel_rfl) (by kernel_rfl) (by kernel_rfl) ?_
    have S12 := S11.drew
    generalize w11.drew = w12 at S12 ⊢
    clear S11
    have hc0 := S12.cell 2 rfl 0
    have hc1 := S12.cell 2 rfl 1
    have hc2 := S12.cell 2 rfl 2
    have hz1 := S12.frozen 2 rfl 1
    simp only [List.set_cons_zero, List.set_cons_succ, List.getElem?_cons_zero, List.getElem?_cons_succ] at hc0 hc1 hc2
    have hmx := HMX.out
    refine wpAny_seg 0 19 1 20 #[true, true, true, true, true, true, true, true, true, true, true, true, true, true, true, true, true, true, true, false] (by kernel_rfl) (by kernel_rfl) ?_
    simp only [List.take_succ_cons, List.take_zero, List.drop_succ_cons, List.drop_zero]
    refine wpStill_step (fun K hK => ?_); go_simp; refine hK _ ?_; clear hK K
    try simp only [Act.put, List.getElem_toArray, List.getElem_cons_zero, List.getElem_cons_succ, List.setIfInBounds_toArray, List.set_cons_zero, List.set_cons_succ]
    refine wpStill_step (fun K hK => ?_); go_simp; refine hK _ ?_; clear hK K
    try simp only [Act.put, List.getElem_toArray, List.getElem_cons_zero, List.getElem_cons_succ, List.setIfInBounds_toArray, List.set_cons_zero, List.set_cons_succ]
    refine wpStill_step (fun K hK => ?_); go_simp; refine hK _ ?_; clear hK K
    try simp only [Act.put, List.getElem_toArray, List.getElem_cons_zero, List.getElem_cons_succ, List.setIfInBounds_toArray, List.set_cons_zero, List.set_cons_succ]
    refine wpStill_step (fun K hK => ?_); go_simp; refine hK _ ?_; clear hK K
    try simp only [Act.put, List.getElem_toArray, List.getElem_cons_zero, List.getElem_cons_succ, List.setIfInBounds_toArray, List.set_cons_zero, List.set_cons_succ]
    refine wpStill_step (fun K hK => ?_); go_simp; refine hK _ ?_; clear hK K
    try simp only [Act.put, List.getElem_toArray, List.getElem_cons_zero, List.getElem_cons_succ, List.setIfInBounds_toArray, List.set_cons_zero, List.set_cons_succ]
    refine wpStill_step (fun K hK => ?_); go_simp; refine hK _ ?_; clear hK K
    try simp only [Act.put, List.getElem_toArray, List.getElem_cons_zero, List.getElem_cons_succ, List.setIfInBounds_toArray, List.set_cons_zero, List.set_cons_succ]
    refine wpStill_step (fun K hK => ?_); go_simp; refine hK _ ?_; clear hK K
    try simp only [Act.put, List.getElem_toArray, List.getElem_cons_zero, List.getElem_cons_succ, List.setIfInBounds_toArray, List.set_cons_zero, List.set_cons_succ]
    refine wpStill_step (fun K hK => ?_); go_simp; refine hK _ ?_; clear hK K
    try simp only [Act.put, List.getElem_toArray, List.getElem_cons_zero, List.getElem_cons_succ, List.setIfInBounds_toArray, List.set_cons_zero, List.set_cons_succ]
    refine wpStill_step (fun K hK => ?_); go_simp; refine hK _ ?_; clear hK K
    try simp only [Act.put, List.getElem_toArray, List.getElem_cons_zero, List.getElem_cons_succ, List.setIfInBounds_toArray, List.set_cons_zero, List.set_cons_succ]
    refine wpStill_step (fun K hK => ?_); go_simp; refine hK _ ?_; clear hK K
    try simp only [Act.put, List.getElem_toArray, List.getElem_cons_zero, List.getElem_cons_succ, List.setIfInBounds_toArray, List.set_cons_zero, List.set_cons_succ]
    refine wpStill_step (fun K hK => ?_); go_simp; refine hK _ ?_; clear hK K
    try simp only [Act.put, List.getElem_toArray, List.getElem_cons_zero, List.getElem_cons_succ, List.setIfInBounds_toArray, List.set_cons_zero, List.set_cons_succ]
    refine wpStill_step (fun K hK => ?_); go_simp; refine hK _ ?_; clear hK K
    try simp only [Act.put, List.getElem_toArray, List.getElem_cons_zero, List.getElem_cons_succ, List.setIfInBounds_toArray, List.set_cons_zero, List.set_cons_succ]
    refine wpStill_step (fun K hK => ?_); go_simp; refine hK _ ?_; clear hK K
    try simp only [Act.put, List.getElem_toArray, List.getElem_cons_zero, List.getElem_cons_succ, List.setIfInBounds_toArray, List.set_cons_zero, List.set_cons_succ]
    refine wpStill_step (fun K hK => ?_); go_simp; refine hK _ ?_; clear hK K
    try simp only [Act.put, List.getElem_toArray, List.getElem_cons_zero, List.getElem_cons_succ, List.setIfInBounds_toArray, List.set_cons_zero, List.set_cons_succ]
    refine wpStill_step (fun K hK => ?_); go_simp; refine hK _ ?_; clear hK K
    try simp only [Act.put, List.getElem_toArray, List.getElem_cons_zero, List.getElem_cons_succ, List.setIfInBounds_toArray, List.set_cons_zero, List.set_cons_succ]
    refine wpStill_step (fun K hK => ?_); go_simp; refine hK _ ?_; clear hK K
    try simp only [Act.put, List.getElem_toArray, List.getElem_cons_zero, List.getElem_cons_succ, List.setIfInBounds_toArray, List.set_cons_zero, List.set_cons_succ]
    refine wpStill_step (fun K hK => ?_); go_simp; refine hK _ ?_; clear hK K
    try simp only [Act.put, List.getElem_toArray, List.getElem_cons_zero, List.getElem_cons_succ, List.setIfInBounds_toArray, List.set_cons_zero, List.set_cons_succ]
    refine wpStill_step (fun K hK => ?_); go_simp; refine hK _ ?_; clear hK K
    try simp only [Act.put, List.getElem_toArray, List.getElem_cons_zero, List.getElem_cons_succ, List.setIfInBounds_toArray, List.set_cons_zero, List.set_cons_succ]
    refine wpStill_step (fun K hK => ?_); go_simp; refine hK _ ?_; clear hK K
    try simp only [Act.put, List.getElem_toArray, List.getElem_cons_zero, List.getElem_cons_succ, List.setIfInBounds_toArray, List.set_cons_zero, List.set_cons_succ]
    refine wpStill_nil ?_
    refine wpAny_one (i := 19) (LN := #[true, true, true, true, true, true, true, true, true, true, true, true, true, true, true, true, true, true, true, true]) (by kernel_rfl) rfl (by kernel_rfl) ?_
    intro K hK
    go_simp
    refine hK.out _ _ ?_
    clear hK K
    try simp only [Act.put, List.getElem_toArray, List.getElem_cons_zero, List.getElem_cons_succ, List.setIfInBounds_toArray, List.set_cons_zero, List.set_cons_succ]
    refine ⟨by kernel_rfl, ?_⟩
    try simp only [Act.put, List.getElem_toArray, List.getElem_cons_zero, List.getElem_cons_succ, List.setIfInBounds_toArray, List.set_cons_zero, List.set_cons_succ]
    have S13 := S12.setCell (k := 1) (v := .int .i64 mx) 2 rfl
    clear hmx
    go_wp2_with fail
    go_ret
    exact ⟨rfl, RG_open.2 ⟨pb, by rw [HLR.out]; exact (S13.sel [1]).tail.swap⟩⟩
end Go.Proofs.YtjdeeloemhjbhaaGreat
end

section
namespace Go.Proofs.YtjdeeloemhjbhaaGreat
open Go.RowKit Go.Sep Go.Vm Go.Inp

section
variable (code : List (Int × Int)) (cap fuel seed : Int)
/-- the state behind inputs -/
def stL (l : List (Int × Int)) : VS := lastP (VS.start seed) (framesP code cap fuel (VS.start seed) l)
end
/-- what is used of the first so many frames -/
def usedQ (q : PQ) (n : Nat) : List (Int × Int) := (List.range n).map fun (i : Nat) => ((q.get 0 (i : Int)).1, (q.get 1 (i : Int)).1)
theorem usedQ_succ (q : PQ) (n : Nat) : usedQ q (n + 1) = usedQ q n ++ [((q.get 0 (n : Int)).1, (q.get 1 (n : Int)).1)] := by
  unfold usedQ; rw [List.range_succ, List.map_append]; rfl
theorem usedQ_length (q : PQ) (n : Nat) : (usedQ q n).length = n := by simp [usedQ]
theorem usedQ_take (q : PQ) {n m : Nat} (h : n ≤ m) : (usedQ q m).take n = usedQ q n := by
  unfold usedQ
  rw [← List.map_take, List.take_range, Nat.min_eq_left h]
theorem usedQ_at (q : PQ) {n i : Nat} (h : i < n) : (usedQ q n)[i]? = some ((q.get 0 (i : Int)).1, (q.get 1 (i : Int)).1) := by
  unfold usedQ
  rw [List.getElem?_map, List.getElem?_range h]
  rfl
section
variable {code : List (Int × Int)} {cap fuel seed : Int}
theorem lastP_cons' (z s : VS) (l : List VS) : lastP z (s :: l) = lastP s l := by
  unfold lastP
  rw [List.getLast_cons (by simp)]
theorem frames_snoc : ∀ (l : List (Int × Int)) (s : VS) (x : Int × Int),
    framesP code cap fuel s (l ++ [x]) = framesP code cap fuel s l ++ (if (lastP s (framesP code cap fuel s l)).over = true then [] else [(stepP code cap fuel (lastP s (framesP code cap fuel s l)) x.1 x.2).1])
  | [], s, x => by
    show framesP code cap fuel s [x] = _
    unfold framesP
    split
    · rename_i h; rw [show lastP s [] = s from rfl, if_pos h]; rfl
    · rename_i h
      rw [show lastP s [] = s from rfl, if_neg h]
      show (stepP code cap fuel s x.1 x.2).1 :: framesP code cap fuel _ [] = _
      rfl
  | y :: l, s, x => by
    rw [List.cons_append]
    by_cases h : s.over = true
    · rw [framesP_over h, framesP_over h, show lastP s [] = s from rfl, if_pos h]; rfl
    · have e1 : framesP code cap fuel s (y :: (l ++ [x])) = (stepP code cap fuel s y.1 y.2).1 :: framesP code cap fuel (stepP code cap fuel s y.1 y.2).1 (l ++ [x]) := by
        conv => lhs; unfold framesP
        rw [if_neg h]
      have e2 : framesP code cap fuel s (y :: l) = (stepP code cap fuel s y.1 y.2).1 :: framesP code cap fuel (stepP code cap fuel s y.1 y.2).1 l := by
        conv => lhs; unfold framesP
        rw [if_neg h]
      rw [e1, e2, lastP_cons', frames_snoc l]
      rfl
theorem stL_snoc (l : List (Int × Int)) (x : Int × Int) : stL code cap fuel seed (l ++ [x]) = if (stL code cap fuel seed l).over = true then stL code cap fuel seed l else (stepP code cap fuel (stL code cap fuel seed l) x.1 x.2).1 := by
  unfold stL
  rw [frames_snoc]
  split
  · rw [List.append_nil]
  · rw [lastP_snoc]
theorem stL_nil : stL code cap fuel seed [] = VS.start seed := rfl
def U16s (l : List (Int × Int)) : Prop := ∀ x ∈ l, (0 ≤ x.1 ∧ x.1 < 65536) ∧ (0 ≤ x.2 ∧ x.2 < 65536)
theorem stL_goes (hk : checkP code cap fuel = 0) (hs : 0 ≤ seed ∧ seed < 4294967296) {l : List (Int × Int)} (hl : U16s l) : Goes cap (stL code cap fuel seed l) ∧ (stL code cap fuel seed l).frame ≤ l.length ∧ ((stL code cap fuel seed l).over = false → (stL code cap fuel seed l).frame = l.length) := by
  obtain ⟨m, hm⟩ : ∃ m, l.length = m := ⟨_, rfl⟩
  induction m generalizing l with
  | zero =>
    obtain rfl : l = [] := List.eq_nil_of_length_eq_zero hm
    exact ⟨goes_start hk hs, Int.le_refl _, fun _ => rfl⟩
  | succ m ih =>
    have hne : l ≠ [] := fun h => by rw [h] at hm; cases hm
    obtain ⟨l', x, hlx⟩ : ∃ l' x, l = l' ++ [x] := ⟨l.dropLast, l.getLast hne, (List.dropLast_concat_getLast hne).symm⟩
    subst hlx
    rw [List.length_append, List.length_singleton] at hm ⊢
    obtain ⟨g, f, o⟩ := ih (l := l') (fun y hy => hl y (by simp [hy])) (by omega)
    have hx := hl x (by simp)
    rw [stL_snoc]
    split
    · rename_i h
      refine ⟨g, by omega, fun h' => ?_⟩
      rw [h] at h'; cases h'
    · rename_i h
      have h' : (stL code cap fuel seed l').over = false := by simpa using h
      obtain ⟨t, ht, gt, ft⟩ := goes_step hk g h' hx.1 hx.2
      have hf := o h'
      rw [ht]
      refine ⟨gt, by simp only; omega, fun _ => by simp only; omega⟩
/-- the state behind the first so many frames, known or guessed -/
def stA (code : List (Int × Int)) (cap fuel seed : Int) (q : PQ) (n : Nat) : VS := stL code cap fuel seed (usedQ q n)
def QB (q : PQ) : Prop := ∀ (j : Int) (i : Int), 0 ≤ (q.get j i).1 ∧ (q.get j i).1 < 65536
theorem usedQ_u16 {q : PQ} (h : QB q) (n : Nat) : U16s (usedQ q n) := by
  intro x hx
  obtain ⟨i, _, rfl⟩ := List.mem_map.1 hx
  exact ⟨h 0 i, h 1 i⟩
theorem stA_goes (hk : checkP code cap fuel = 0) (hs : 0 ≤ seed ∧ seed < 4294967296) {q : PQ} (h : QB q) (n : Nat) :
    Goes cap (stA code cap fuel seed q n) ∧ (stA code cap fuel seed q n).frame ≤ n ∧ ((stA code cap fuel seed q n).over = false → (stA code cap fuel seed q n).frame = n) := by
  have := stL_goes hk hs (usedQ_u16 h n)
  rw [usedQ_length] at this
  exact this
theorem stA_zero {q : PQ} : stA code cap fuel seed q 0 = VS.start seed := rfl
theorem stA_succ {q : PQ} {n : Nat} : stA code cap fuel seed q (n + 1) = if (stA code cap fuel seed q n).over = true then stA code cap fuel seed q n else (stepP code cap fuel (stA code cap fuel seed q n) (q.get 0 (n : Int)).1 (q.get 1 (n : Int)).1).1 := by
  unfold stA
  rw [usedQ_succ, stL_snoc]
theorem stA_over {q : PQ} {n : Nat} (h : (stA code cap fuel seed q n).over = true) : ∀ m, n ≤ m → stA code cap fuel seed q m = stA code cap fuel seed q n := by
  intro m
  induction m with
  | zero => intro hm; obtain rfl : n = 0 := by omega
            rfl
  | succ m ih =>
    intro hm
    by_cases e : n = m + 1
    · rw [e]
    · rw [stA_succ, ih (by omega), if_pos h]
theorem isP_goes (hk : checkP code cap fuel = 0) {s : VS} (h : Goes cap s) : isP s = true := by
  obtain ⟨_, _, hc1, hc2, _, _⟩ := check_ok hk
  unfold isP
  have a := h.frame
  have b := h.sane
  simp only [Bool.and_eq_true, Bool.or_eq_true, decide_eq_true_eq]
  exact ⟨a.1, by omega, b.2.1, b.2.2.1, b.2.2.2⟩
/-- what is sure up to which frame: as far as both are known, or played -/
theorem usedQ_congr {q q' : PQ} {n : Nat} (h : ∀ i : Nat, i < n → (q.get 0 (i : Int)).1 = (q'.get 0 (i : Int)).1 ∧ (q.get 1 (i : Int)).1 = (q'.get 1 (i : Int)).1) : usedQ q n = usedQ q' n := by
  unfold usedQ
  refine List.map_congr_left fun i hi => ?_
  obtain ⟨h1, h2⟩ := h i (List.mem_range.1 hi)
  rw [h1, h2]
end
end Go.Proofs.YtjdeeloemhjbhaaGreat
end

section
namespace Go.Proofs.YtjdeeloemhjbhaaGreat
open Go.RowKit Go.Sep Go.Oct Go.Vm Go.Inp
set_option linter.unusedSimpArgs false

/-- a Session's cells -/
structure SR where
  ca : Option Addr
  cn : Nat
  cc : Nat
  cap : Int
  fuel : Int
  me : Int
  qp : Nat
  rp : Nat
  ua : Option Addr
  un : Nat
  uc : Nat
  dn : Int
  now : VS
  sure : VS
  st : Int
  wr : Int
def rvH (r : SR) : List Value := [.slice r.ca r.cn r.cc, .int .i64 r.cap, .int .i64 r.fuel, .int .i64 r.me, .pointer (some ⟨r.qp, 0, none⟩), .pointer (some ⟨r.rp, 0, none⟩), .slice r.ua r.un r.uc, .int .i64 r.dn]
def rv (r : SR) : List Value := .slice r.ca r.cn r.cc :: .int .i64 r.cap :: .int .i64 r.fuel :: .int .i64 r.me :: .pointer (some ⟨r.qp, 0, none⟩) :: .pointer (some ⟨r.rp, 0, none⟩) :: .slice r.ua r.un r.uc :: .int .i64 r.dn :: (svals r.now ++ (svals r.sure ++ [.int .i64 r.st, .int .i64 r.wr]))
theorem rv_eq (r : SR) : rv r = rvH r ++ (svals r.now ++ (svals r.sure ++ [.int .i64 r.st, .int .i64 r.wr])) := rfl
structure SR.Ok (r : SR) : Prop where
  now : r.now.Ok
  sure : r.sure.Ok
section
variable {r : SR}
theorem SR.Ok.n20 (h : r.Ok) : (svals r.now).length = 20 := svals_length h.now.len
theorem SR.Ok.s20 (h : r.Ok) : (svals r.sure).length = 20 := svals_length h.sure.len
theorem rv_length (h : r.Ok) : (rv r).length = 50 := by
  rw [rv_eq, List.length_append, List.length_append, List.length_append, h.n20, h.s20]; rfl
theorem rv_now (h : r.Ok) {j : Nat} (hj : j < 20) : (rv r)[8 + j]? = (svals r.now)[j]? := by
  rw [rv_eq, List.getElem?_append_right (by show 8 ≤ _; omega), show 8 + j - (rvH r).length = j by show 8 + j - 8 = j; omega, List.getElem?_append_left (by rw [h.n20]; exact hj)]
theorem rv_sure (h : r.Ok) {j : Nat} (hj : j < 20) : (rv r)[28 + j]? = (svals r.sure)[j]? := by
  rw [rv_eq, List.getElem?_append_right (by show 8 ≤ _; omega), show 28 + j - (rvH r).length = 20 + j by show 28 + j - 8 = _; omega, List.getElem?_append_right (by rw [h.n20]; omega), h.n20, show 20 + j - 20 = j by omega, List.getElem?_append_left (by rw [h.s20]; exact hj)]
theorem rv_end (h : r.Ok) (j : Nat) : (rv r)[48 + j]? = ([.int .i64 r.st, .int .i64 r.wr] : List Value)[j]? := by
  rw [rv_eq, List.getElem?_append_right (by show 8 ≤ _; omega), show 48 + j - (rvH r).length = 40 + j by show 48 + j - 8 = _; omega, List.getElem?_append_right (by rw [h.n20]; omega), h.n20, List.getElem?_append_right (by rw [h.s20]; omega), h.s20, show 40 + j - 20 - 20 = j by omega]
theorem rv_setNow (h : r.Ok) (t : VS) : (rv r).take 8 ++ svals t ++ (rv r).drop (8 + 20) = rv { r with now := t } := by
  have e1 : (rv r).take 8 = rvH r := rfl
  have e2 : (rv r).drop (8 + 20) = svals r.sure ++ [.int .i64 r.st, .int .i64 r.wr] := by
    rw [← List.drop_drop, show (rv r).drop 8 = svals r.now ++ (svals r.sure ++ [.int .i64 r.st, .int .i64 r.wr]) from rfl, List.drop_left' h.n20]
  rw [e1, e2, rv_eq, List.append_assoc]
  rfl
theorem rv_setSure (h : r.Ok) (t : VS) : (rv r).take 28 ++ svals t ++ (rv r).drop (28 + 20) = rv { r with sure := t } := by
  have e0 : (rv r).drop 8 = svals r.now ++ (svals r.sure ++ [.int .i64 r.st, .int .i64 r.wr]) := rfl
  have e1 : (rv r).take 28 = rvH r ++ svals r.now := by
    rw [rv_eq, ← List.append_assoc, List.take_left' (by rw [List.length_append, h.n20]; rfl)]
  have e2 : (rv r).drop (28 + 20) = [.int .i64 r.st, .int .i64 r.wr] := by
    rw [rv_eq, ← List.append_assoc, ← List.append_assoc, List.drop_left' (by rw [List.length_append, List.length_append, h.n20, h.s20]; rfl)]
  rw [e1, e2, rv_eq]
  simp only [List.append_assoc]
  rfl
theorem rv_setEnd (h : r.Ok) (a b : Value) : (rv r).take 48 ++ [a, b] = rvH r ++ (svals r.now ++ (svals r.sure ++ [a, b])) := by
  rw [rv_eq, ← List.append_assoc, ← List.append_assoc, List.take_left' (by rw [List.length_append, List.length_append, h.n20, h.s20]; rfl)]
  simp only [List.append_assoc]
theorem rv_setSteps (h : r.Ok) (v : Int) : (rv r).set 48 (.int .i64 v) = rv { r with st := v } := by
  rw [rv_eq, List.set_append_right _ _ (by show 8 ≤ 48; omega), show 48 - (rvH r).length = 40 from rfl, List.set_append_right _ _ (by rw [h.n20]; omega), h.n20, List.set_append_right _ _ (by rw [h.s20]; omega), h.s20]
  rfl
theorem rv_setWrong (h : r.Ok) (v : Int) : (rv r).set 49 (.int .i64 v) = rv { r with wr := v } := by
  rw [rv_eq, List.set_append_right _ _ (by show 8 ≤ 49; omega), show 49 - (rvH r).length = 41 from rfl, List.set_append_right _ _ (by rw [h.n20]; omega), h.n20, List.set_append_right _ _ (by rw [h.s20]; omega), h.s20]
  rfl
end
/-- the cells that are looked at one by one -/
structure RAt (w : World) (g : Nat) (r : SR) : Prop where
  cap : w.cell? ⟨g, 1, none⟩ = some (.int .i64 r.cap)
  me : w.cell? ⟨g, 3, none⟩ = some (.int .i64 r.me)
  qp : w.cell? ⟨g, 4, none⟩ = some (.pointer (some ⟨r.qp, 0, none⟩))
  rp : w.cell? ⟨g, 5, none⟩ = some (.pointer (some ⟨r.rp, 0, none⟩))
  us : w.cell? ⟨g, 6, none⟩ = some (.slice r.ua r.un r.uc)
  dn : w.cell? ⟨g, 7, none⟩ = some (.int .i64 r.dn)
  nf : w.cell? ⟨g, 8, none⟩ = some (.int .i64 r.now.frame)
  no : w.cell? ⟨g, 26, none⟩ = some (.bool r.now.over)
  sf : w.cell? ⟨g, 28, none⟩ = some (.int .i64 r.sure.frame)
  so : w.cell? ⟨g, 46, none⟩ = some (.bool r.sure.over)
  st : w.cell? ⟨g, 48, none⟩ = some (.int .i64 r.st)
  wr : w.cell? ⟨g, 49, none⟩ = some (.int .i64 r.wr)
  fz : ∀ k, w.frozen? ⟨g, k, none⟩ = false
  game : ∀ j, j < 3 → w.cell? ⟨g, 0 + j, none⟩ = ([.slice r.ca r.cn r.cc, .int .i64 r.cap, .int .i64 r.fuel] : List Value)[j]?
  now : ∀ j, j < 20 → w.cell? ⟨g, 8 + j, none⟩ = (svals r.now)[j]?
  sure : ∀ j, j < 20 → w.cell? ⟨g, 28 + j, none⟩ = (svals r.sure)[j]?
theorem r_at {W0 w : World} {L : List Asn} {g : Nat} {r : SR} (h : r.Ok) (S : Sat W0 w (blk g (rv r) 74 :: L)) : RAt w g r := by
  have hn : ∀ j, j < 20 → w.cell? ⟨g, 8 + j, none⟩ = (svals r.now)[j]? := fun j hj => (S.cell 0 rfl (8 + j)).trans (rv_now h hj)
  have hs : ∀ j, j < 20 → w.cell? ⟨g, 28 + j, none⟩ = (svals r.sure)[j]? := fun j hj => (S.cell 0 rfl (28 + j)).trans (rv_sure h hj)
  refine ⟨S.cell 0 rfl 1, S.cell 0 rfl 3, S.cell 0 rfl 4, S.cell 0 rfl 5, S.cell 0 rfl 6, S.cell 0 rfl 7, hn 0 (by omega), (hn 18 (by omega)).trans (svals_tail h.now.len 1), hs 0 (by omega), (hs 18 (by omega)).trans (svals_tail h.sure.len 1), (S.cell 0 rfl 48).trans (rv_end h 0), (S.cell 0 rfl 49).trans (rv_end h 1), fun k => S.frozen 0 rfl k, fun j hj => ?_, hn, hs⟩
  rw [S.cell 0 rfl, Nat.zero_add]
  match j, hj with
  | 0, _ => rfl
  | 1, _ => rfl
  | 2, _ => rfl
theorem Tryz.sizeG : (Tryz.prog.info? 24).map (·.size) = some 3 := by kernel_rfl
theorem Tryz.sizePr : (Tryz.prog.info? 43).map (·.size) = some 2 := by kernel_rfl

set_option maxRecDepth 100000 in
set_option maxHeartbeats 1600000 in
theorem rbPair_any {W0 w : World} {L : List Asn} {g : Nat} {r : SR} {q : PQ} (S : Sat W0 w (blk g (rv r) 74 :: Qu r.qp q :: L)) (hr : r.Ok) (hq : q.ok) (f : Int) :
    Calls Tryz.prog 68 #[.pointer (some ⟨g, 0, none⟩), .int .i64 f] w fun e w' => e = .returned (.agg #[.int .u16 (q.get 0 f).1, .int .u16 (q.get 1 f).1]) ∧ Sat W0 w' (blk g (rv r) 74 :: Qu r.qp q :: L) := by
  have S1 := S.alloc [.int .u16 0, .int .u16 0] 43
  generalize hA : q.get 0 f = A
  generalize hB : q.get 1 f = B
  obtain ⟨a, ak⟩ := A
  obtain ⟨b, bk⟩ := B
  have HA := Lib.hid hA
  have HB := Lib.hid hB
  clear hA hB S
  go_enter Tryz.func68, Tryz.ntmps68
  go_wp2_with fail
  change Sat W0 (w.alloc _) _ at S1
  generalize w.alloc _ = w1 at S1 ⊢
  generalize w.heap.size = p at S1 ⊢
  go_loopw [5, 6] (fun _ i wr =>
    (i = .int .i64 0 ∧ Sat W0 wr (blk p [.int .u16 0, .int .u16 0] 43 :: blk g (rv r) 74 :: Qu r.qp q :: L)) ∨
    (i = .int .i64 1 ∧ Sat W0 wr (blk p [.int .u16 a, .int .u16 0] 43 :: blk g (rv r) 74 :: Qu r.qp q :: L)) ∨
    (i = .int .i64 2 ∧ Sat W0 wr (blk p [.int .u16 a, .int .u16 b] 43 :: blk g (rv r) 74 :: Qu r.qp q :: L))) (fun _ i _ => 2 - (intOf i).toNat)
  case atStart => exact .inl ⟨rfl, S1⟩
  case round =>
    clear S1
    rcases hrel with ⟨rfl, S2⟩ | ⟨rfl, S2⟩ | ⟨rfl, S2⟩
    all_goals
      have hA2 := r_at hr (S2.sel [1])
      have cq := hA2.qp
      clear hA2
    · have S3 : Sat W0 wr (blk p [.int .u16 0, .int .u16 0] 43 :: blk g (rv r) 74 :: Qu r.qp q :: L) := S2
      have hz := S3.frozen 0 rfl 0
      have hc := S3.cell 0 rfl 0
      simp only [List.getElem?_cons_zero] at hc
      clear S2
      go_wp2_with (first
        | (go_at_call 80; refine (qget_any (S3.sel [2]) hq 0 f).mono ?_; rintro e w4 ⟨rfl, rfl⟩; rw [HA.out]))
      exact ⟨.inr (.inl ⟨by go_num, S3.setCell (k := 0) (v := .int .u16 a) 0 rfl⟩), by simp [intOf]⟩
    · have S3 : Sat W0 wr (blk p [.int .u16 a, .int .u16 0] 43 :: blk g (rv r) 74 :: Qu r.qp q :: L) := S2
      have hz := S3.frozen 0 rfl 1
      have hc := S3.cell 0 rfl 1
      simp only [List.getElem?_cons_zero, List.getElem?_cons_succ] at hc
      clear S2
      go_wp2_with (first
        | (go_at_call 80; refine (qget_any (S3.sel [2]) hq 1 f).mono ?_; rintro e w4 ⟨rfl, rfl⟩; rw [HB.out]))
      exact ⟨.inr (.inr ⟨by go_num, S3.setCell (k := 1) (v := .int .u16 b) 0 rfl⟩), by simp [intOf]⟩
    · have S3 : Sat W0 wr (blk p [.int .u16 a, .int .u16 b] 43 :: blk g (rv r) 74 :: Qu r.qp q :: L) := S2
      clear S2
      go_wp2_with (first
        | (refine wpList_load_part rfl 43 _ rfl (n := 2) rfl (Sat.whole S3 2) rfl Tryz.underlying43 rfl Tryz.sizePr ?_)
        | (refine wpList_store_sat (off := 0) (n := 2) rfl 43 _ _ rfl S3 rfl rfl rfl (by simp) Tryz.sizePr (by simp [Value.oneCell']) ?_; intro w4 S4))
      exact bodyPost_ret (results_cell_sat rfl _ S4 rfl Tryz.underlying43 rfl Tryz.sizePr) rfl ⟨rfl, S4.tail⟩
end Go.Proofs.YtjdeeloemhjbhaaGreat
end

section
namespace Go.Sep
open Go.RowKit

section
variable {P : Program} {ops : Array Oper} {md : Region.Mode} {w : World}

def sinkL (md : Region.Mode) (ops : Array Oper) (n d : Nat) : Bool :=
  (List.range n).all fun i => decide (i < d) || (List.range (n + 1)).any fun j => decide (i < j) && Region.waitsFor md ops j i
theorem sinkL_spec {n d i : Nat} (hs : sinkL md ops n d = true) (hi : i < n) (hd : d ≤ i) : ((List.range (n + 1)).any fun j => decide (i < j) && Region.waitsFor md ops j i) = true := by
  have h := List.all_eq_true.1 hs i (List.mem_range.2 hi)
  simp only [Bool.or_eq_true, decide_eq_true_eq] at h
  rcases h with h | h
  · omega
  · exact h
theorem getD_grow {listed : Array Bool} {i j : Nat} (h : listed.getD i false = true) : (listed.setIfInBounds j true).getD i false = true := by
  simp only [Array.getD_eq_getD_getElem?, Array.getElem?_setIfInBounds] at h ⊢
  split
  · split
    · rfl
    · rename_i h1 h2; subst h1; rw [Array.getElem?_eq_none (by omega)] at h; exact h
  · exact h

theorem seg_waitsD {n dd : Nat} {listed : Array Bool} (hs : sinkL md ops n dd = true) (hdd : ∀ i, i < dd → listed.getD i false = true) (hc : segB md ops n = true) (hn : n < ops.size) (inv : HeadInv md ops n listed) :
    ∀ (d i : Nat), n - i = d → i < n → listed.getD i true = false → ∀ t, n ≤ t → t ∉ Region.ready md ops listed := by
  intro d
  induction d using Nat.strongRecOn with
  | _ d ih =>
    intro i hd hi hun t ht hr
    obtain ⟨_, ot, hot, hall⟩ := mem_ready.1 hr
    have htlt : t < ops.size := (Array.getElem?_eq_some_iff.1 hot).1
    by_cases htn : t = n
    · subst htn
      have hdi : dd ≤ i := by
        rcases Nat.lt_or_ge i dd with h | h
        · have h2 := hdd i h
          rw [getD_both hun] at h2
          cases h2
        · exact h
      have h1 := sinkL_spec hs hi hdi
      obtain ⟨j, hj, hj2⟩ := List.any_eq_true.1 h1
      simp only [Bool.and_eq_true, decide_eq_true_eq] at hj2
      obtain ⟨oj, hoj, e, he, hb, hon⟩ := Region.waitsFor_spec hj2.2
      have hjle : j ≤ t := by have := List.mem_range.1 hj; omega
      by_cases hjt : j = t
      · subst hjt
        have : oj = ot := Option.some.inj (hoj.symm.trans hot)
        subst this
        have h2 := hall e he hb
        rw [hon, getD_both hun] at h2
        cases h2
      · cases hl : listed.getD j false with
        | true =>
          have h2 := inv.closed j oj hoj hl e he hb
          rw [hon, getD_both hun] at h2
          cases h2
        | false =>
          have hjs : j < listed.size := by rw [inv.size]; omega
          exact ih (t - j) (by omega) j rfl (by omega) (getD_in hjs hl) t (Nat.le_refl _) hr
    · have h1 := List.all_eq_true.1 hc t (List.mem_range.2 htlt)
      simp only [Bool.or_eq_true, decide_eq_true_eq] at h1
      rcases h1 with h1 | h1
      · omega
      · obtain ⟨u, hu, hu2⟩ := List.any_eq_true.1 h1
        simp only [Bool.and_eq_true, decide_eq_true_eq] at hu2
        have hut := List.mem_range.1 hu
        obtain ⟨o', ho', e, he, hb, hon⟩ := Region.waitsFor_spec hu2.2
        have : o' = ot := Option.some.inj (ho'.symm.trans hot)
        subst this
        have h2 := hall e he hb
        rw [hon, getD_both (inv.tail u hu2.1 (by omega))] at h2
        cases h2


theorem wpAnyL_firstD {n i d : Nat} {oi : Oper} {v : Value} {L : Array Bool → Act → Prop} (hi : ops[i]? = some oi) (hsel : ∀ (j : Nat) (o : Oper) cs b, ops[j]? = some o → o.op ≠ .select cs b)
    (hs : sinkL md ops n d = true) (hc : segB md ops n = true) (hn : n < ops.size) (hin : i < n)
    (hdone : ∀ listed a, L listed a → ∀ j ∈ Region.ready md ops listed, n ≤ j) :
    ∀ (f : Nat) (listed : Array Bool) (a : Act), (∀ i, i < d → listed.getD i false = true) → HeadInv md ops n listed →
      (∀ j oj, ops[j]? = some oj → j ≠ i → listed.getD j true = false → (∀ e ∈ oj.after, Region.binds md e = true → e.on ≠ i) → oi.apart ops oj = true) →
      i ∈ Region.ready md ops listed → YieldsAt P ops w oi v a →
      wpAnyL P md ops w n L f (listed.setIfInBounds i true) (a.put oi.dst v) → wpAnyL P md ops w n L (f + 1) listed a := by
  intro f
  induction f with
  | zero =>
    intro listed a hd inv _ hr hy H
    have hun := (mem_ready.1 hr).1
    refine ⟨fun h => (by rw [h] at hr; cases hr), fun j hj => ?_⟩
    have hjn : j < n := by
      rcases Nat.lt_or_ge j n with h | h
      · exact h
      · exact absurd hj (seg_waitsD hs hd hc hn inv _ i rfl hin hun j h)
    refine ⟨hjn, ?_⟩
    by_cases hji : j = i
    · subst hji; exact hy.stOp hi H
    · have := hdone _ _ H j (ready_mono hj hji)
      omega
  | succ f ih =>
    intro listed a hd inv hfree hr hy H
    have hun := (mem_ready.1 hr).1
    refine ⟨fun h => (by rw [h] at hr; cases hr), fun j hj => ?_⟩
    have hjn : j < n := by
      rcases Nat.lt_or_ge j n with h | h
      · exact h
      · exact absurd hj (seg_waitsD hs hd hc hn inv _ i rfl hin hun j h)
    refine ⟨hjn, ?_⟩
    by_cases hji : j = i
    · subst hji; exact hy.stOp hi H
    · have h1 := (H.2 j (ready_mono hj hji)).2
      obtain ⟨hjun, oj, hoj, hall⟩ := mem_ready.1 hj
      have hnot : ∀ e ∈ oj.after, Region.binds md e = true → e.on ≠ i := fun e he hb heq => by
        have h1 := hall e he hb
        rw [heq, getD_both hun] at h1
        cases h1
      have h2 := stOp_put hoj (hfree j oj hoj hji hjun hnot) (fun cs b => hsel i oi cs b hi) (fun cs b => hsel j oj cs b hoj) hy h1
      have hfree' : ∀ k ok, ops[k]? = some ok → k ≠ i → (listed.setIfInBounds j true).getD k true = false →
          (∀ e ∈ ok.after, Region.binds md e = true → e.on ≠ i) → oi.apart ops ok = true := fun k ok hk hki hun hno => by
        refine hfree k ok hk hki ?_ hno
        by_cases hjk : j = k
        · subst hjk; exact hjun
        · rw [getD_set_ne true hjk] at hun; exact hun
      refine stOp_mono (fun a' h3 => ih (listed.setIfInBounds j true) a' (fun i hi => getD_grow (hd i hi)) (inv.set hj hjn) hfree' (ready_mono hr (Ne.symm hji)) h3.1 ?_) h2
      rw [Array.setIfInBounds_comm _ _ hji]
      exact h3.2


theorem wpAnyL_segD {n d : Nat} {LN : Array Bool} {Lq : Act → Prop} (hsel : Region.noSelect ops = true) (hs : sinkL md ops n d = true) (hc : segB md ops n = true) (hn : n < ops.size) :
    ∀ (l : List Oper) (k : Nat) (listed : Array Bool) (a : Act), (∀ j, j < l.length → l[j]? = ops[k + j]?) → k + l.length = n → (∀ i, i < d → listed.getD i false = true) → HeadInv md ops n listed →
    segHead md ops n LN l.length k listed = true → wpStill P ops w Lq l a →
    wpAnyL P md ops w n (fun listed' a' => (listed' = LN ∧ ∀ j ∈ Region.ready md ops LN, n ≤ j) ∧ Lq a') l.length listed a
  | [], k, listed, a, _, hk, _, _, hB, h => by
    simp only [List.length_nil, segHead, Bool.and_eq_true, decide_eq_true_eq, List.all_eq_true] at hB
    exact ⟨⟨hB.1, hB.2⟩, h⟩
  | o :: l, k, listed, a, hl, hk, hd, inv, hB, h => by
    have h0 : ops[k]? = some o := by simpa using (hl 0 (by simp)).symm
    simp only [List.length_cons, segHead, Bool.and_eq_true] at hB
    obtain ⟨⟨hr, hf⟩, hB'⟩ := hB
    have hkn : k < n := by simp only [List.length_cons] at hk; omega
    have hr' : k ∈ Region.ready md ops listed := by simpa using hr
    have hst : stOp P ops w k (wpStill P ops w Lq l) a := by unfold stOp; simp only [h0]; exact h
    obtain ⟨v, hy, hK⟩ := yieldsAt_of_stOp h0 hst
    exact wpAnyL_firstD h0 (Region.noSelect_spec hsel) hs hc hn hkn (fun listed' a' hL => by have h3 := hL.1.1; subst h3; exact hL.1.2) l.length listed a hd inv (Region.free_spec h0 hf) hr' hy
      (wpAnyL_segD hsel hs hc hn l (k + 1) _ _ (fun j hj => by have := hl (j + 1) (by simp; omega); simpa [Nat.add_assoc, Nat.add_comm 1 j] using this) (by simp only [List.length_cons] at hk; omega) (fun i hi => getD_grow (hd i hi)) (inv.set hr' hkn) hB' hK)


def segsD (ops : Array Oper) (k n : Nat) (listed LN : Array Bool) : Bool :=
  Region.noSelect ops && decide (n < ops.size) && decide (k ≤ n) && sinkL .any ops n k && segB .any ops n && headB .any ops n listed && ((List.range k).all fun i => listed.getD i false) && segHead .any ops n LN (n - k) k listed

/-- **the reads k..n-1**, at the world at hand, in the text's order; then what may come up is n alone (or what stands behind) -/
theorem wpAny_segD {Q : Exit → Act → World → Prop} {a : Act} {l : List Oper} (k n g f : Nat) {listed : Array Bool} (LN : Array Bool) (hB : segsD l.toArray k n listed LN = true) (hf : f = n - k + g)
    (h : wpStill P l.toArray w (fun a' => wpAny P .any l.toArray Q g LN a' w) ((l.drop k).take (n - k)) a) : wpAny P .any l.toArray Q f listed a w := by
  simp only [segsD, Bool.and_eq_true, decide_eq_true_eq] at hB
  obtain ⟨⟨⟨⟨⟨⟨⟨hsel, hn⟩, hkn⟩, hs⟩, hc⟩, hi⟩, hd⟩, hseg⟩ := hB
  have hd' : ∀ i, i < k → listed.getD i false = true := fun i h => by have := List.all_eq_true.1 hd i (List.mem_range.2 h); exact this
  have hn' : n < l.length := by simpa using hn
  have htl : ((l.drop k).take (n - k)).length = n - k := by simp; omega
  have H := wpAnyL_segD (md := .any) (d := k) (LN := LN) hsel hs hc hn ((l.drop k).take (n - k)) k listed a (fun j hj => by
    have hj' : j < n - k := by rw [htl] at hj; exact hj
    simp [List.getElem?_take, hj', List.getElem?_drop]) (by rw [htl]; omega) hd' (headB_spec hi) (by rw [htl]; exact hseg) h
  have := wpAny_of_head (Q' := Q) (g := g) (fun listed' a' hL => by have h1 := hL.1.1; subst h1; exact hL.2) _ _ _ H
  rw [htl] at this
  rw [hf]
  exact this

end
end Go.Sep
end

section
namespace Go.Proofs.YtjdeeloemhjbhaaGreat
open Go.RowKit Go.Sep Go.Oct Go.Vm Go.Inp
set_option linter.unusedSimpArgs false

def sis (ao : Option Addr) (n cap : Nat) (l : List (Int × Int)) : Asn := slc 95 2 ao n cap (insv l)
/-- a Session and all that is its own -/
def RA (g : Nat) (r : SR) (q : PQ) (ring : List VS) (lo hi : Int) (u : List (Int × Int)) (code : List (Int × Int)) : List Asn :=
  [blk g (rv r) 74, Qu r.qp q, RG r.rp ring lo hi, sps r.ua r.un r.uc u, sis r.ca r.cn r.cc code]
def FrPost (W0 : World) (L : List Asn) (g : Nat) (r : SR) (q : PQ) (ring : List VS) (lo hi : Int) (u code : List (Int × Int)) (f : Nat) (p0 p1 : Int) (t : VS) (e : Ending) (w' : World) : Prop :=
  e = .returned (.tuple #[]) ∧ ∃ ua uc, Sat W0 w' (RA g { r with ua := ua, un := f + 1, uc := uc, now := t, st := r.st + 1 } q (ring.set ((f + 1) % 16) t) (ringLo lo hi ((f + 1 : Nat) : Int)) ((f + 1 : Nat) : Int) (u.take f ++ [(p0, p1)]) code ++ L)

set_option maxRecDepth 100000 in
set_option maxHeartbeats 6400000 in
theorem rbFrame_any {W0 w : World} {L : List Asn} {g : Nat} {r : SR} {q : PQ} {ring : List VS} {lo hi : Int} {u code : List (Int × Int)} (S : Sat W0 w (RA g r q ring lo hi u code ++ L)) (hr : r.Ok) (hq : q.ok)
    {f : Nat} (hf : r.now.frame = f) (hf6 : f < 600) (hfu : f ≤ u.length) (hu6 : u.length ≤ 1000) {t : VS} {p0 p1 : Int} (hp0 : (q.get 0 f).1 = p0) (hp1 : (q.get 1 f).1 = p1) (hb0 : 0 ≤ p0 ∧ p0 < 65536) (hb1 : 0 ≤ p1 ∧ p1 < 65536)
    {e0 : Int} (hst : stepP code r.cap r.fuel r.now p0 p1 = (t, e0)) (hto : t.Ok) (htp : isP t = true) (htf : t.frame = ((f + 1 : Nat) : Int)) (hrl : ring.length = 16) (hro : ∀ s ∈ ring, s.Ok) (hlo : 0 ≤ lo ∧ lo ≤ f) (hhi : hi = f) (_hcl : code.length ≤ 1000) (hst9 : 0 ≤ r.st ∧ r.st ≤ 1000000000) :
    Calls Tryz.prog 48 #[.pointer (some ⟨g, 0, none⟩)] w (FrPost W0 L g r q ring lo hi u code f p0 p1 t) := by
  have S1 : Sat W0 w (blk g (rv r) 74 :: Qu r.qp q :: RG r.rp ring lo hi :: sps r.ua r.un r.uc u :: sis r.ca r.cn r.cc code :: L) := S
  have hul : u.length = r.un := by
    have h1 := (S1.sel [3]).own_len
    rw [pv_length] at h1
    omega
  have hcn : code.length = r.cn ∧ r.cn ≤ maxLen := by
    have h1 := (S1.sel [4]).own_len
    have h2 := insv_length code
    rw [h2] at h1
    exact ⟨by omega, Nat.le_trans h1.2.1 h1.2.2.1⟩
  have HPR := Lib.hid (⟨hp0, hp1⟩ : _ ∧ _)
  have HST := Lib.hid hst
  have HRO := Lib.hid hro
  have HTO := Lib.hid hto
  have HTL := Lib.hid (svals_length hto.len)
  have HCN := Lib.hid hcn
  have HUL := Lib.hid hul
  have HF := Lib.hid (⟨hf, hhi, htf⟩ : _ ∧ _ ∧ _)
  have hun : r.un ≤ 1000 ∧ f ≤ r.un := by omega
  obtain ⟨k0, hik, kz0, kz1, kz2⟩ := info_parts Tryz.infoP
  have hA := r_at hr S1
  have cf := hA.nf
  rw [hf] at cf
  clear hA S hp0 hp1 hst hro hto hcn hul hf hhi htf hfu hu6
  go_enter Tryz.func48, Tryz.ntmps48
  go_upto_region 2 with (first
    | (refine wpList_store_sat (off := 0) (n := 2) rfl 43 _ _ rfl S3 rfl rfl rfl (by simp) Tryz.sizePr (by simp [Value.oneCell']) ?_; intro w4 S4)
    | (go_at_call 68; refine (rbPair_any S1 hr hq f).mono ?_; rw [HPR.out.1, HPR.out.2]; rintro e w2 ⟨rfl, S2⟩; have S3 := S2.alloc [.int .u16 0, .int .u16 0] 43))
  have S5 : Sat W0 w4 (blk w2.heap.size [.int .u16 p0, .int .u16 p1] 43 :: blk g (rv r) 74 :: Qu r.qp q :: RG r.rp ring lo hi :: sps r.ua r.un r.uc u :: sis r.ca r.cn r.cc code :: L) := S4
  generalize w2.heap.size = pp at S5 ⊢
  clear S1 S2 S3 S4 cf
  have hk0 : (0 : Int) ≤ (f : Int) := by omega
  have hk1 : (f : Int) ≤ (r.uc : Int) := by have := (S5.sel [4]).own_len; omega
  refine wp_region_drawn (N := 13) (LN := #[false, false, false, false, false, false, false, false, false, false, false, false, false]) (by kernel_rfl) (by kernel_rfl) (by kernel_rfl) ?_
  have S6 := S5.drew
  generalize w4.drew = w6 at S6 ⊢
  clear S5
  refine wpAny_until 12 (fun w' => w'.cell? ⟨g, 6, none⟩ = some (.slice r.ua r.un r.uc) ∧ (∀ j, j < 2 → w'.cell? ⟨pp, 0 + j, none⟩ = ([.int .u16 p0, .int .u16 p1] : List Value)[j]?)) ⟨(r_at hr (S6.sel [1])).us, Sat.whole S6 2⟩ (fun hHeld => ?_)
  refine wpAnyU_tk (by kernel_rfl) (i := 0) (v := ?_) (LN := #[true, false, false, false, false, false, false, false, false, false, false, false, false]) rfl (by kernel_rfl) (by kernel_rfl) (by kernel_rfl) (fun _ _ _ h => h) (by kernel_rfl) (by rfl) (by assumption) ?_ ?_
  rotate_left
  · intro w hSw; (try dsimp only at hSw); first | (go_simp; done) | (go_simp; with_reducible rfl)
  try simp only [Act.put, List.getElem_toArray, List.getElem_cons_zero, List.getElem_cons_succ, List.setIfInBounds_toArray, List.set_cons_zero, List.set_cons_succ]
  refine wpAnyU_tk (by kernel_rfl) (i := 1) (v := ?_) (LN := #[true, true, false, false, false, false, false, false, false, false, false, false, false]) rfl (by kernel_rfl) (by kernel_rfl) (by kernel_rfl) (fun _ _ _ h => h) (by kernel_rfl) (by rfl) (by assumption) ?_ ?_
  rotate_left
  · intro w hSw; (try dsimp only at hSw); first | (go_simp; done) | (go_simp; with_reducible rfl)
  try simp only [Act.put, List.getElem_toArray, List.getElem_cons_zero, List.getElem_cons_succ, List.setIfInBounds_toArray, List.set_cons_zero, List.set_cons_succ]
  refine wpAnyU_tk (by kernel_rfl) (i := 2) (v := ?_) (LN := #[true, true, true, false, false, false, false, false, false, false, false, false, false]) rfl (by kernel_rfl) (by kernel_rfl) (by kernel_rfl) (fun _ _ _ h => h) (by kernel_rfl) (by rfl) (by assumption) ?_ ?_
  rotate_left
  · intro w hSw; (try dsimp only at hSw); first | (go_simp; done) | (go_simp; with_reducible rfl)
  try simp only [Act.put, List.getElem_toArray, List.getElem_cons_zero, List.getElem_cons_succ, List.setIfInBounds_toArray, List.set_cons_zero, List.set_cons_succ]
  refine wpAnyU_tk (by kernel_rfl) (i := 3) (v := ?_) (LN := #[true, true, true, true, false, false, false, false, false, false, false, false, false]) rfl (by kernel_rfl) (by kernel_rfl) (by kernel_rfl) (fun _ _ _ h => h) (by kernel_rfl) (by rfl) (by assumption) ?_ ?_
  rotate_left
  · intro w hSw; (try dsimp only at hSw); first | (go_simp; done) | (go_simp; with_reducible rfl)
  try simp only [Act.put, List.getElem_toArray, List.getElem_cons_zero, List.getElem_cons_succ, List.setIfInBounds_toArray, List.set_cons_zero, List.set_cons_succ]
  refine wpAnyU_tk (by kernel_rfl) (i := 4) (v := ?_) (LN := #[true, true, true, true, true, false, false, false, false, false, false, false, false]) rfl (by kernel_rfl) (by kernel_rfl) (by kernel_rfl) (fun _ _ _ h => h) (by kernel_rfl) (by rfl) (by assumption) ?_ ?_
  rotate_left
  · intro w hSw; (try dsimp only at hSw); first | (go_simp; done) | (go_simp; with_reducible rfl)
  try simp only [Act.put, List.getElem_toArray, List.getElem_cons_zero, List.getElem_cons_succ, List.setIfInBounds_toArray, List.set_cons_zero, List.set_cons_succ]
  refine wpAnyU_tk (by kernel_rfl) (i := 5) (v := ?_) (LN := #[true, true, true, true, true, true, false, false, false, false, false, false, false]) rfl (by kernel_rfl) (by kernel_rfl) (by kernel_rfl) (fun _ _ _ h => h) (by kernel_rfl) (by rfl) (by assumption) ?_ ?_
  rotate_left
  · intro w hSw; (try dsimp only at hSw); first | (go_simp; done) | (go_simp; with_reducible rfl)
  try simp only [Act.put, List.getElem_toArray, List.getElem_cons_zero, List.getElem_cons_succ, List.setIfInBounds_toArray, List.set_cons_zero, List.set_cons_succ]
  refine wpAnyU_tk (by kernel_rfl) (i := 6) (v := ?_) (LN := #[true, true, true, true, true, true, true, false, false, false, false, false, false]) rfl (by kernel_rfl) (by kernel_rfl) (by kernel_rfl) (fun _ _ _ h => h) (by kernel_rfl) (by rfl) (by assumption) ?_ ?_
  rotate_left
  · intro w hSw; (try dsimp only at hSw); first | (go_simp; done) | (go_simp; with_reducible rfl)
  try simp only [Act.put, List.getElem_toArray, List.getElem_cons_zero, List.getElem_cons_succ, List.setIfInBounds_toArray, List.set_cons_zero, List.set_cons_succ]
  refine wpAnyU_tk (by kernel_rfl) (i := 7) (LN := #[true, true, true, true, true, true, true, true, false, false, false, false, false]) rfl (by kernel_rfl) (by kernel_rfl) (by kernel_rfl) (fun _ _ _ h => h) (by kernel_rfl) (by rfl) (by assumption) (fun w h => run_load_part 43 _ rfl (g := pp) (off := 0) (n := 2) rfl (h.2) rfl Tryz.underlying43 rfl (by kernel_rfl)) ?_
  try simp only [Act.put, List.getElem_toArray, List.getElem_cons_zero, List.getElem_cons_succ, List.setIfInBounds_toArray, List.set_cons_zero, List.set_cons_succ]
  refine wpAnyU_one (by decide) (i := 8) (LN := #[true, true, true, true, true, true, true, true, true, false, false, false, false]) (by kernel_rfl) rfl (by kernel_rfl) ?_
  intro K hK
  go_simp
  have S7 := S6.alloc [.int .u16 p0, .int .u16 p1] 43
  refine hK.out _ _ ⟨(r_at hr (S7.sel [2])).us, Sat.whole (S7.sel [1]) 2⟩ ?_
  clear hK K hHeld
  intro hHeld
  try simp only [Act.put, List.getElem_toArray, List.getElem_cons_zero, List.getElem_cons_succ, List.setIfInBounds_toArray, List.set_cons_zero, List.set_cons_succ]
  have S8 : Sat W0 _ (sps r.ua r.un r.uc u :: _) := S7.sel [5]
  have S9 := Sat.own_shrink (n := f) (k := r.un - f) (xs := pv (u.take f)) (ys := pv (u.drop f)) (size := 2) (by rw [← pv_append, List.take_append_drop, show f + (r.un - f) = r.un by omega]; exact S8) (by rw [pv_length, List.length_take, HUL.out]; omega)
  refine wpAnyU_one (by decide) (i := 9) (LN := #[true, true, true, true, true, true, true, true, true, true, false, false, false]) (by kernel_rfl) rfl (by kernel_rfl) ?_
  intro K hK
  refine step_append_sat rfl _ _ _ rfl 43 k0 _ 2 4 Tryz.underlying41 hik kz0 kz1 kz2 rfl (by decide) S9 rfl rfl (Rd.lit (S9.block 1 rfl).1) (by rfl) (by simp [Value.oneCell']) (by unfold maxLen; omega) (by omega) ?_
  intro ua uc w10 S10
  refine hK.out _ _ ⟨(r_at hr (S10.sel [3])).us, Sat.whole (S10.sel [2]) 2⟩ ?_
  clear hK K hHeld
  intro hHeld
  try simp only [Act.put, List.getElem_toArray, List.getElem_cons_zero, List.getElem_cons_succ, List.setIfInBounds_toArray, List.set_cons_zero, List.set_cons_succ]
  refine wpAnyU_tk (by kernel_rfl) (i := 10) (v := ?_) (LN := #[true, true, true, true, true, true, true, true, true, true, true, false, false]) rfl (by kernel_rfl) (by kernel_rfl) (by kernel_rfl) (fun _ _ _ h => h) (by kernel_rfl) (by rfl) (by assumption) ?_ ?_
  rotate_left
  · intro w hSw; (try dsimp only at hSw); first | (go_simp; done) | (go_simp; with_reducible rfl)
  try simp only [Act.put, List.getElem_toArray, List.getElem_cons_zero, List.getElem_cons_succ, List.setIfInBounds_toArray, List.set_cons_zero, List.set_cons_succ]
  refine wpAnyU_tk (by kernel_rfl) (i := 11) (v := ?_) (LN := #[true, true, true, true, true, true, true, true, true, true, true, true, false]) rfl (by kernel_rfl) (by kernel_rfl) (by kernel_rfl) (fun _ _ _ h => h) (by kernel_rfl) (by rfl) (by assumption) ?_ ?_
  rotate_left
  · intro w hSw; (try dsimp only at hSw); first | (go_simp; done) | (go_simp; with_reducible rfl)
  try simp only [Act.put, List.getElem_toArray, List.getElem_cons_zero, List.getElem_cons_succ, List.setIfInBounds_toArray, List.set_cons_zero, List.set_cons_succ]
  refine wpAnyU_fin (i := 12) (LN := #[true, true, true, true, true, true, true, true, true, true, true, true, true]) (by kernel_rfl) rfl (by kernel_rfl) ?_
  intro K hK
  have hA := r_at hr (S10.sel [3])
  have n6 := hA.us
  have m6 := hA.fz 6
  have S11 := S10.setCell (k := 6) (v := .slice ua (f + 1) uc) 3 rfl
  clear hA
  go_simp
  refine hK.out _ _ ?_
  clear hK K hHeld
  try simp only [Act.put, List.getElem_toArray, List.getElem_cons_zero, List.getElem_cons_succ, List.setIfInBounds_toArray, List.set_cons_zero, List.set_cons_succ]
  refine ⟨by kernel_rfl, ?_⟩
  try simp only [Act.put, List.getElem_toArray, List.getElem_cons_zero, List.getElem_cons_succ, List.setIfInBounds_toArray, List.set_cons_zero, List.set_cons_succ]
  obtain ⟨r1, hr1⟩ : ∃ r1, ({ r with ua := ua, un := f + 1, uc := uc } : SR) = r1 := ⟨_, rfl⟩
  have S12 : Sat W0 (w10.setCell ⟨g, 6, none⟩ (.slice ua (f + 1) uc)) (blk pp [.int .u16 p0, .int .u16 p1] 43 :: blk g (rv r1) 74 :: Qu r.qp q :: RG r.rp ring lo hi :: sps ua (f + 1) uc (u.take f ++ [(p0, p1)]) :: sis r.ca r.cn r.cc code :: L) := by
    rw [← hr1]
    have e : pv (u.take f ++ [(p0, p1)]) = pv (u.take f) ++ [.int .u16 p0, .int .u16 p1] := pv_append _ _
    unfold sps
    rw [e]
    exact (S11.sel [1]).tail.sel [1, 1, 1, 1, 0]
  have hr1o : r1.Ok := by rw [← hr1]; exact ⟨hr.now, hr.sure⟩
  have HR1 := Lib.hid hr1
  have hE : r1.ca = r.ca ∧ r1.cn = r.cn ∧ r1.cc = r.cc ∧ r1.cap = r.cap ∧ r1.fuel = r.fuel ∧ r1.now = r.now ∧ r1.st = r.st ∧ r1.rp = r.rp := by rw [← hr1]; exact ⟨rfl, rfl, rfl, rfl, rfl, rfl, rfl, rfl⟩
  obtain ⟨h1, h2, h3, h4, h5, h6, h7, h8⟩ := hE
  have HG3 : Hid (∀ w', RAt w' g r1 → (∀ j, j < 3 → w'.cell? ⟨g, 0 + j, none⟩ = ([.slice r.ca r.cn r.cc, .int .i64 r.cap, .int .i64 r.fuel] : List Value)[j]?) ∧ (∀ j, j < 20 → w'.cell? ⟨g, 8 + j, none⟩ = (svals r.now)[j]?)) := by
    intro w' h
    have a := h.game
    have b := h.now
    rw [h1, h2, h3, h4, h5] at a
    rw [h6] at b
    exact ⟨a, b⟩
  have HST1 := Lib.hid h7
  have HRP1 := Lib.hid h8
  have HNL := Lib.hid hr.n20
  clear n6 m6 S6 S7 S8 S9 S10 S11 hr1 h1 h2 h3 h4 h5 h6 h7 h8 hk0 hk1
  generalize World.setCell w10 _ _ = w12 at S12 ⊢
  go_upto_region 3 with fail
  refine wp_region_drawn (N := 17) (LN := #[false, false, false, false, false, false, false, false, false, false, false, false, false, false, false, false, false]) (by kernel_rfl) (by kernel_rfl) (by kernel_rfl) ?_
  have S13 := S12.drew
  generalize w12.drew = w13 at S13 ⊢
  clear S12
  have hG := HG3.out _ (r_at hr1o (S13.sel [1]))
  refine wpAny_loc (i := 0) (v := ?_) (LN := #[true, false, false, false, false, false, false, false, false, false, false, false, false, false, false, false, false]) rfl (by kernel_rfl) (by kernel_rfl) (by kernel_rfl) (fun _ _ _ h => h) (by kernel_rfl) (by rfl) ?_ ?_
  rotate_left
  · intro w; first | (go_simp; done) | (go_simp; with_reducible rfl)
  try simp only [Act.put, List.getElem_toArray, List.getElem_cons_zero, List.getElem_cons_succ, List.setIfInBounds_toArray, List.set_cons_zero, List.set_cons_succ]
  refine wpAny_segD 1 10 7 16 #[true, true, true, true, true, true, true, true, true, true, false, false, false, false, false, false, false] (by kernel_rfl) (by kernel_rfl) ?_
  simp only [List.take_succ_cons, List.take_zero, List.drop_succ_cons, List.drop_zero]
  refine wpStill_step (fun K hK => ?_); go_simp; refine hK _ ?_; clear hK K
  try simp only [Act.put, List.getElem_toArray, List.getElem_cons_zero, List.getElem_cons_succ, List.setIfInBounds_toArray, List.set_cons_zero, List.set_cons_succ]
  refine wpStill_step (fun K hK => ?_); go_simp; refine hK _ ?_; clear hK K
  try simp only [Act.put, List.getElem_toArray, List.getElem_cons_zero, List.getElem_cons_succ, List.setIfInBounds_toArray, List.set_cons_zero, List.set_cons_succ]
  refine wpStill_step (fun K hK => ?_); go_simp; refine hK _ ?_; clear hK K
  try simp only [Act.put, List.getElem_toArray, List.getElem_cons_zero, List.getElem_cons_succ, List.setIfInBounds_toArray, List.set_cons_zero, List.set_cons_succ]
  refine wpStill_step (fun K hK => ?_); refine still_load_part rfl 24 _ rfl (n := 3) rfl hG.1 rfl Tryz.underlying24 rfl Tryz.sizeG ?_; refine hK _ ?_; clear hK K
  try simp only [Act.put, List.getElem_toArray, List.getElem_cons_zero, List.getElem_cons_succ, List.setIfInBounds_toArray, List.set_cons_zero, List.set_cons_succ]
  refine wpStill_step (fun K hK => ?_); go_simp; refine hK _ ?_; clear hK K
  try simp only [Act.put, List.getElem_toArray, List.getElem_cons_zero, List.getElem_cons_succ, List.setIfInBounds_toArray, List.set_cons_zero, List.set_cons_succ]
  refine wpStill_step (fun K hK => ?_); go_simp; refine hK _ ?_; clear hK K
  try simp only [Act.put, List.getElem_toArray, List.getElem_cons_zero, List.getElem_cons_succ, List.setIfInBounds_toArray, List.set_cons_zero, List.set_cons_succ]
  refine wpStill_step (fun K hK => ?_); go_simp; refine hK _ ?_; clear hK K
  try simp only [Act.put, List.getElem_toArray, List.getElem_cons_zero, List.getElem_cons_succ, List.setIfInBounds_toArray, List.set_cons_zero, List.set_cons_succ]
  refine wpStill_step (fun K hK => ?_); refine still_load_part rfl 46 _ rfl (n := 20) rfl hG.2 HNL.out Tryz.underlying46 rfl Tryz.sizeS ?_; refine hK _ ?_; clear hK K
  try simp only [Act.put, List.getElem_toArray, List.getElem_cons_zero, List.getElem_cons_succ, List.setIfInBounds_toArray, List.set_cons_zero, List.set_cons_succ]
  refine wpStill_step (fun K hK => ?_); refine still_load_part rfl 43 _ rfl (n := 2) rfl (Sat.whole S13 2) rfl Tryz.underlying43 rfl (by kernel_rfl) ?_; refine hK _ ?_; clear hK K
  try simp only [Act.put, List.getElem_toArray, List.getElem_cons_zero, List.getElem_cons_succ, List.setIfInBounds_toArray, List.set_cons_zero, List.set_cons_succ]
  refine wpStill_nil ?_
  refine wpAny_one (i := 10) (LN := #[true, true, true, true, true, true, true, true, true, true, true, false, false, false, false, false, false]) (by kernel_rfl) rfl (by kernel_rfl) ?_
  intro K hK
  go_simp
  go_at_call 69
  refine (vStep_any S13 (fun w' h => (h.sel [5]).own_rd) HCN.out.1 HCN.out.2 r.cap r.fuel hr.now p0 p1 hb0 hb1).mono ?_
  unfold Stepped
  rw [HST.out]
  rintro e w14 ⟨rfl, S14⟩
  go_wp2_with fail
  refine hK.out _ _ ?_
  clear hK K
  try simp only [Act.put, List.getElem_toArray, List.getElem_cons_zero, List.getElem_cons_succ, List.setIfInBounds_toArray, List.set_cons_zero, List.set_cons_succ]
  refine wpAny_loc (i := 11) (v := ?_) (LN := #[true, true, true, true, true, true, true, true, true, true, true, true, false, false, false, false, false]) rfl (by kernel_rfl) (by kernel_rfl) (by kernel_rfl) (fun _ _ _ h => h) (by kernel_rfl) (by rfl) ?_ ?_
  rotate_left
  · intro w; first | (go_simp; done) | (go_simp; with_reducible rfl)
  try simp only [Act.put, List.getElem_toArray, List.getElem_cons_zero, List.getElem_cons_succ, List.setIfInBounds_toArray, List.set_cons_zero, List.set_cons_succ]
  refine wpAny_loc (i := 12) (v := ?_) (LN := #[true, true, true, true, true, true, true, true, true, true, true, true, true, false, false, false, false]) rfl (by kernel_rfl) (by kernel_rfl) (by kernel_rfl) (fun _ _ _ h => h) (by kernel_rfl) (by rfl) ?_ ?_
  rotate_left
  · intro w; first | (go_simp; done) | (go_simp; with_reducible rfl)
  try simp only [Act.put, List.getElem_toArray, List.getElem_cons_zero, List.getElem_cons_succ, List.setIfInBounds_toArray, List.set_cons_zero, List.set_cons_succ]
  refine wpAny_loc (i := 13) (v := ?_) (LN := #[true, true, true, true, true, true, true, true, true, true, true, true, true, true, false, false, false]) rfl (by kernel_rfl) (by kernel_rfl) (by kernel_rfl) (fun _ _ _ h => h) (by kernel_rfl) (by rfl) ?_ ?_
  rotate_left
  · intro w; first | (go_simp; done) | (go_simp; with_reducible rfl)
  try simp only [Act.put, List.getElem_toArray, List.getElem_cons_zero, List.getElem_cons_succ, List.setIfInBounds_toArray, List.set_cons_zero, List.set_cons_succ]
  refine wpAny_loc (i := 14) (v := ?_) (LN := #[true, true, true, true, true, true, true, true, true, true, true, true, true, true, true, false, false]) rfl (by kernel_rfl) (by kernel_rfl) (by kernel_rfl) (fun _ _ _ h => h) (by kernel_rfl) (by rfl) ?_ ?_
  rotate_left
  · intro w; first | (go_simp; done) | (go_simp; with_reducible rfl)
  try simp only [Act.put, List.getElem_toArray, List.getElem_cons_zero, List.getElem_cons_succ, List.setIfInBounds_toArray, List.set_cons_zero, List.set_cons_succ]
  refine wpAny_loc (i := 15) (v := ?_) (LN := #[true, true, true, true, true, true, true, true, true, true, true, true, true, true, true, true, false]) rfl (by kernel_rfl) (by kernel_rfl) (by kernel_rfl) (fun _ _ _ h => h) (by kernel_rfl) (by rfl) ?_ ?_
  rotate_left
  · intro w; first | (go_simp; done) | (go_simp; with_reducible rfl)
  try simp only [Act.put, List.getElem_toArray, List.getElem_cons_zero, List.getElem_cons_succ, List.setIfInBounds_toArray, List.set_cons_zero, List.set_cons_succ]
  refine wpAny_one (i := 16) (LN := #[true, true, true, true, true, true, true, true, true, true, true, true, true, true, true, true, true]) (by kernel_rfl) rfl (by kernel_rfl) ?_
  intro K hK
  refine step_store_sat (off := 8) (n := 20) rfl 46 _ _ rfl (S14.sel [1]) rfl rfl HTL.out (by rw [rv_length hr1o]; omega) Tryz.sizeS (svals_one t) ?_
  intro w15 S15
  rw [rv_setNow hr1o] at S15
  refine hK.out _ _ ?_
  clear hK K
  try simp only [Act.put, List.getElem_toArray, List.getElem_cons_zero, List.getElem_cons_succ, List.setIfInBounds_toArray, List.set_cons_zero, List.set_cons_succ]
  refine ⟨by kernel_rfl, ?_⟩
  try simp only [Act.put, List.getElem_toArray, List.getElem_cons_zero, List.getElem_cons_succ, List.setIfInBounds_toArray, List.set_cons_zero, List.set_cons_succ]
  clear hG S13 S14
  obtain ⟨r2, hr2⟩ : ∃ r2, ({ r1 with now := t } : SR) = r2 := ⟨_, rfl⟩
  have S16 : Sat W0 w15 (blk g (rv r2) 74 :: Qu r.qp q :: RG r.rp ring lo hi :: sps ua (f + 1) uc (u.take f ++ [(p0, p1)]) :: sis r.ca r.cn r.cc code :: L) := by
    rw [← hr2]
    exact (S15.sel [1]).tail
  have hr2o : r2.Ok := by rw [← hr2]; exact ⟨HTO.out, hr1o.sure⟩
  have HR2 := Lib.hid hr2
  have hS2 : r2.st = r.st := by rw [← hr2]; exact HST1.out
  have hA := r_at hr2o S16
  have n48 := hA.st
  have m48 := hA.fz 48
  rw [hS2] at n48
  have hws : IntKind.i64.wrap (r.st + 1) = r.st + 1 := by rw [IntKind.wrap_i64]; omega
  clear hA S15 hr2 hS2
  go_upto_region 5 with fail
  have S17 := S16.setCell (k := 48) (v := .int .i64 (r.st + 1)) 0 rfl
  generalize World.setCell w15 _ _ = w17 at S17 ⊢
  obtain ⟨r3, hr3⟩ : ∃ r3, ({ r2 with st := r.st + 1 } : SR) = r3 := ⟨_, rfl⟩
  have S18 : Sat W0 w17 (blk g (rv r3) 74 :: Qu r.qp q :: RG r.rp ring lo hi :: sps ua (f + 1) uc (u.take f ++ [(p0, p1)]) :: sis r.ca r.cn r.cc code :: L) := by
    rw [← hr3, ← rv_setSteps hr2o]
    exact S17
  have hr3o : r3.Ok := by rw [← hr3]; exact ⟨hr2o.now, hr2o.sure⟩
  have HFIN : Hid (r3 = { r with ua := ua, un := f + 1, uc := uc, now := t, st := r.st + 1 }) := by
    show _ = _
    rw [← hr3, ← HR2.out, ← HR1.out]
  have HA3 : Hid (∀ w', RAt w' g r3 → w'.cell? ⟨g, 5, none⟩ = some (.pointer (some ⟨r.rp, 0, none⟩)) ∧ (∀ j, j < 20 → w'.cell? ⟨g, 8 + j, none⟩ = (svals t)[j]?)) := by
    intro w' h
    have a := h.rp
    have b := h.now
    rw [HFIN.out] at a b
    exact ⟨a, b⟩
  clear n48 m48 hws S16 S17 hr3
  refine wp_region_drawn (N := 9) (LN := #[false, false, false, false, false, false, false, false, false]) (by kernel_rfl) (by kernel_rfl) (by kernel_rfl) ?_
  have S19 := S18.drew
  generalize w17.drew = w19 at S19 ⊢
  clear S18
  obtain ⟨h5, hn⟩ := HA3.out _ (r_at hr3o S19)
  refine wpAny_seg 0 8 1 9 #[true, true, true, true, true, true, true, true, false] (by kernel_rfl) (by kernel_rfl) ?_
  simp only [List.take_succ_cons, List.take_zero, List.drop_succ_cons, List.drop_zero]
  refine wpStill_step (fun K hK => ?_); go_simp; refine hK _ ?_; clear hK K
  try simp only [Act.put, List.getElem_toArray, List.getElem_cons_zero, List.getElem_cons_succ, List.setIfInBounds_toArray, List.set_cons_zero, List.set_cons_succ]
  refine wpStill_step (fun K hK => ?_); go_simp; refine hK _ ?_; clear hK K
  try simp only [Act.put, List.getElem_toArray, List.getElem_cons_zero, List.getElem_cons_succ, List.setIfInBounds_toArray, List.set_cons_zero, List.set_cons_succ]
  refine wpStill_step (fun K hK => ?_); go_simp; refine hK _ ?_; clear hK K
  try simp only [Act.put, List.getElem_toArray, List.getElem_cons_zero, List.getElem_cons_succ, List.setIfInBounds_toArray, List.set_cons_zero, List.set_cons_succ]
  refine wpStill_step (fun K hK => ?_); go_simp; refine hK _ ?_; clear hK K
  try simp only [Act.put, List.getElem_toArray, List.getElem_cons_zero, List.getElem_cons_succ, List.setIfInBounds_toArray, List.set_cons_zero, List.set_cons_succ]
  refine wpStill_step (fun K hK => ?_); go_simp; refine hK _ ?_; clear hK K
  try simp only [Act.put, List.getElem_toArray, List.getElem_cons_zero, List.getElem_cons_succ, List.setIfInBounds_toArray, List.set_cons_zero, List.set_cons_succ]
  refine wpStill_step (fun K hK => ?_); go_simp; refine hK _ ?_; clear hK K
  try simp only [Act.put, List.getElem_toArray, List.getElem_cons_zero, List.getElem_cons_succ, List.setIfInBounds_toArray, List.set_cons_zero, List.set_cons_succ]
  refine wpStill_step (fun K hK => ?_); go_simp; refine hK _ ?_; clear hK K
  try simp only [Act.put, List.getElem_toArray, List.getElem_cons_zero, List.getElem_cons_succ, List.setIfInBounds_toArray, List.set_cons_zero, List.set_cons_succ]
  refine wpStill_step (fun K hK => ?_); refine still_load_part rfl 46 _ rfl (n := 20) rfl hn HTL.out Tryz.underlying46 rfl Tryz.sizeS ?_; refine hK _ ?_; clear hK K
  try simp only [Act.put, List.getElem_toArray, List.getElem_cons_zero, List.getElem_cons_succ, List.setIfInBounds_toArray, List.set_cons_zero, List.set_cons_succ]
  refine wpStill_nil ?_
  refine wpAny_one (i := 8) (LN := #[true, true, true, true, true, true, true, true, true]) (by kernel_rfl) rfl (by kernel_rfl) ?_
  intro K hK
  go_simp
  go_at_call 30
  refine (ringPut_any (S19.sel [2]) hrl HRO.out HTO.out htp (.inr (by have := HF.out; omega)) (by have := HF.out; omega) HF.out.2.2).mono ?_
  rintro e w20 ⟨rfl, S20⟩
  go_wp2_with fail
  refine hK.out _ _ ?_
  clear hK K
  try simp only [Act.put, List.getElem_toArray, List.getElem_cons_zero, List.getElem_cons_succ, List.setIfInBounds_toArray, List.set_cons_zero, List.set_cons_succ]
  refine ⟨by kernel_rfl, ?_⟩
  try simp only [Act.put, List.getElem_toArray, List.getElem_cons_zero, List.getElem_cons_succ, List.setIfInBounds_toArray, List.set_cons_zero, List.set_cons_succ]
  go_wp2_with fail
  go_end0
  refine ⟨rfl, ua, uc, ?_⟩
  rw [← HFIN.out]
  have hqp : r3.qp = r.qp ∧ r3.rp = r.rp ∧ r3.ua = ua ∧ r3.un = f + 1 ∧ r3.uc = uc ∧ r3.ca = r.ca ∧ r3.cn = r.cn ∧ r3.cc = r.cc := by rw [HFIN.out]; exact ⟨rfl, rfl, rfl, rfl, rfl, rfl, rfl, rfl⟩
  unfold RA
  rw [hqp.1, hqp.2.1, hqp.2.2.1, hqp.2.2.2.1, hqp.2.2.2.2.1, hqp.2.2.2.2.2.1, hqp.2.2.2.2.2.2.1, hqp.2.2.2.2.2.2.2]
  exact S20.sel [1, 1]
end Go.Proofs.YtjdeeloemhjbhaaGreat
end

section
namespace Go.Proofs.YtjdeeloemhjbhaaGreat
open Go.RowKit Go.Sep Go.Vm Go.Inp

/-- n frames are played, m of them are sure, d frames may be played -/
structure SInv (code : List (Int × Int)) (cap fuel seed : Int) (q : PQ) (r : SR) (ring : List VS) (lo hi : Int) (u : List (Int × Int)) (n m d : Nat) : Prop where
  hcap : r.cap = cap
  hfuel : r.fuel = fuel
  now : r.now = stA code cap fuel seed q n
  fr : (stA code cap fuel seed q n).frame = n
  us : u.take n = usedQ q n
  ul : n ≤ u.length ∧ u.length ≤ 600
  hhi : hi = n
  hlo : 0 ≤ lo ∧ lo ≤ m
  rl : ring.length = 16
  ro : ∀ s ∈ ring, s.Ok
  rg : ∀ k : Nat, lo ≤ k → k ≤ n → ring[k % 16]? = some (stA code cap fuel seed q k)
  sure : r.sure = stA code cap fuel seed q m
  sfr : (stA code cap fuel seed q m).frame = m
  mn : m ≤ n
  dn : r.dn = d
  nd : n ≤ d ∧ d ≤ m + 8 ∧ d ≤ 600
  st : 0 ≤ r.st ∧ r.st ≤ 1000000000
section
variable {code : List (Int × Int)} {cap fuel seed : Int} {q : PQ} {r : SR} {ring : List VS} {lo hi : Int} {u : List (Int × Int)} {n m d : Nat}
theorem SInv.early (h : SInv code cap fuel seed q r ring lo hi u n m d) (hk : checkP code cap fuel = 0) (hs : 0 ≤ seed ∧ seed < 4294967296) (hq : QB q) {k : Nat} (hkn : k < n) : (stA code cap fuel seed q k).over = false := by
  cases ho : (stA code cap fuel seed q k).over with
  | false => rfl
  | true =>
    have e := stA_over ho n (by omega)
    have f1 := (stA_goes hk hs hq k).2.1
    have f2 := h.fr
    rw [e] at f2
    omega
theorem SInv.frames (h : SInv code cap fuel seed q r ring lo hi u n m d) (hk : checkP code cap fuel = 0) (hs : 0 ≤ seed ∧ seed < 4294967296) (hq : QB q) {k : Nat} (hkn : k ≤ n) : (stA code cap fuel seed q k).frame = k := by
  by_cases e : k = n
  · rw [e]; exact h.fr
  · exact (stA_goes hk hs hq k).2.2 (h.early hk hs hq (by omega))
/-- one more frame -/
theorem SInv.frame (h : SInv code cap fuel seed q r ring lo hi u n m d) (hk : checkP code cap fuel = 0) (hs : 0 ≤ seed ∧ seed < 4294967296) (hq : QB q) (ho : (stA code cap fuel seed q n).over = false) (hnd : n < d) (hst : r.st < 1000000000) (ua : Option Addr) (uc : Nat) :
    stepP code r.cap r.fuel r.now (q.get 0 (n : Int)).1 (q.get 1 (n : Int)).1 = (stA code cap fuel seed q (n + 1), 0) ∧ (stA code cap fuel seed q (n + 1)).Ok ∧ isP (stA code cap fuel seed q (n + 1)) = true ∧ (stA code cap fuel seed q (n + 1)).frame = ((n + 1 : Nat) : Int) ∧
    SInv code cap fuel seed q { r with ua := ua, un := n + 1, uc := uc, now := stA code cap fuel seed q (n + 1), st := r.st + 1 } (ring.set ((n + 1) % 16) (stA code cap fuel seed q (n + 1))) (ringLo lo hi ((n + 1 : Nat) : Int)) ((n + 1 : Nat) : Int) (u.take n ++ [((q.get 0 (n : Int)).1, (q.get 1 (n : Int)).1)]) (n + 1) m d := by
  have g := (stA_goes hk hs hq n).1
  have g1 := (stA_goes hk hs hq (n + 1)).1
  obtain ⟨t, ht, gt, ft⟩ := goes_step hk g ho (hq 0 n) (hq 1 n)
  have e1 : stA code cap fuel seed q (n + 1) = t := by rw [stA_succ, if_neg (by rw [ho]; simp), ht]
  have hfr : t.frame = ((n + 1 : Nat) : Int) := by rw [ft, h.fr]; omega
  have hlo := h.hlo
  have hhi := h.hhi
  have hnd' := h.nd
  have hR : ringLo lo hi ((n + 1 : Nat) : Int) = max lo (((n + 1 : Nat) : Int) - 15) := by unfold ringLo; rw [if_neg (by omega)]
  refine ⟨by rw [h.hcap, h.hfuel, h.now, e1]; exact ht, g1.ok, isP_goes hk g1, by rw [e1]; exact hfr, ?_⟩
  have hrl := h.rl
  refine ⟨h.hcap, h.hfuel, rfl, by rw [e1]; exact hfr, ?_, ?_, rfl, by rw [hR]; omega, by rw [List.length_set]; exact hrl, ?_, ?_, h.sure, h.sfr, by have := h.mn; omega, h.dn, by omega, by have := h.st; simp only; omega⟩
  · rw [h.us, ← usedQ_succ, List.take_of_length_le (by rw [usedQ_length]; exact Nat.le_refl _)]
  · have := h.ul
    rw [List.length_append, List.length_take, List.length_singleton]
    omega
  · intro s hs2
    rcases List.mem_or_eq_of_mem_set hs2 with h2 | rfl
    · exact h.ro s h2
    · exact g1.ok
  · intro k h1 h2
    rw [hR] at h1
    by_cases e : k = n + 1
    · subst e
      rw [List.getElem?_set_self (by rw [hrl]; omega)]
    · rw [List.getElem?_set_ne (by omega)]
      exact h.rg k (by omega) (by omega)
/-- one more frame is sure -/
theorem SInv.surer (h : SInv code cap fuel seed q r ring lo hi u n m d) (hk : checkP code cap fuel = 0) (hs : 0 ≤ seed ∧ seed < 4294967296) (hq : QB q) (hmn : m < n) :
    ring[(m + 1) % 16]? = some (stA code cap fuel seed q (m + 1)) ∧ (stA code cap fuel seed q (m + 1)).Ok ∧ (stA code cap fuel seed q (m + 1)).frame = ((m + 1 : Nat) : Int) ∧
    SInv code cap fuel seed q { r with sure := stA code cap fuel seed q (m + 1) } ring lo hi u n (m + 1) d := by
  have hf := h.frames hk hs hq (k := m + 1) (by omega)
  have hlo := h.hlo
  have hnd' := h.nd
  exact ⟨h.rg (m + 1) (by omega) (by omega), (stA_goes hk hs hq (m + 1)).1.ok, hf, h.hcap, h.hfuel, h.now, h.fr, h.us, h.ul, h.hhi, by omega, h.rl, h.ro, h.rg, rfl, hf, by omega, h.dn, by omega, h.st⟩
end
end Go.Proofs.YtjdeeloemhjbhaaGreat
end

section
namespace Go.Inp
open Go.RowKit

theorem putR_new {n : Nat} {r : PRow} {f : Nat} {x : Int} (hf : f < n) (hk : isKn r f = false) : putR n r (f : Int) x = (0, ⟨r.ins.set f x, r.kn.set f true⟩) := by
  unfold putR
  rw [if_neg (by omega), Int.toNat_natCast, if_neg (by rw [hk]; simp)]
theorem isKn_set {r : PRow} {n f : Nat} {x : Int} (h : r.ok n) (hf : f < n) (k : Nat) : isKn ⟨r.ins.set f x, r.kn.set f true⟩ k = (decide (k = f) || isKn r k) := by
  unfold isKn
  by_cases e : k = f
  · subst e
    rw [List.getElem?_set_self (by rw [h.2]; exact hf)]
    simp
  · rw [List.getElem?_set_ne (fun h => e h.symm)]
    simp [e]
theorem inAt_set {r : PRow} {n f : Nat} {x : Int} (h : r.ok n) (hf : f < n) (k : Nat) : inAt ⟨r.ins.set f x, r.kn.set f true⟩ k = if k = f then x else inAt r k := by
  unfold inAt
  by_cases e : k = f
  · subst e
    rw [List.getElem?_set_self (by rw [h.1]; exact hf), if_pos rfl]
    rfl
  · rw [List.getElem?_set_ne (fun h => e h.symm), if_neg e]
/-- a guess ahead of the frame is the same -/
theorem guess_set_le {r : PRow} {n f : Nat} {x : Int} (h : r.ok n) (hf : f < n) : ∀ k, k ≤ f → guess ⟨r.ins.set f x, r.kn.set f true⟩ k = guess r k
  | 0, _ => rfl
  | k + 1, hk => by
    unfold guess
    rw [isKn_set h hf, inAt_set h hf, guess_set_le h hf k (by omega), if_neg (by omega : ¬ k = f)]
    simp [show ¬ k = f by omega]
theorem getR_nat (n : Nat) (r : PRow) (k : Nat) : getR n r (k : Int) = if k < n ∧ isKn r k = true then (inAt r k, true) else (guess r (min k n), false) := by
  unfold getR
  rw [if_neg (by omega), Int.toNat_natCast]
  by_cases h : k < n
  · by_cases h2 : isKn r k = true
    · rw [if_pos ⟨by omega, h2⟩, if_pos ⟨h, h2⟩]
    · rw [if_neg (fun h3 => h2 h3.2), if_neg (fun h3 => h2 h3.2)]
  · rw [if_neg (fun h3 => h (by omega)), if_neg (fun h3 => h h3.1)]
theorem getR_set_lt {r : PRow} {n f : Nat} {x : Int} (h : r.ok n) (hf : f < n) {k : Nat} (hk : k < f) : getR n ⟨r.ins.set f x, r.kn.set f true⟩ (k : Int) = getR n r (k : Int) := by
  rw [getR_nat, getR_nat, isKn_set h hf, inAt_set h hf, guess_set_le h hf _ (by omega), if_neg (by omega : ¬ k = f)]
  simp [show ¬ k = f by omega]
/-- a guess that is right: the guesses behind it stay -/
theorem guess_set_right {r : PRow} {n f : Nat} {x : Int} (h : r.ok n) (hf : f < n) (hk : isKn r f = false) (hx : guess r f = x) : ∀ k, guess ⟨r.ins.set f x, r.kn.set f true⟩ k = guess r k
  | 0 => rfl
  | k + 1 => by
    have ih := guess_set_right h hf hk hx k
    unfold guess
    rw [isKn_set h hf, inAt_set h hf, ih]
    by_cases e : k = f
    · subst e
      rw [hk, if_pos rfl]
      simp [hx]
    · simp [e]
theorem getR_set_right {r : PRow} {n f : Nat} {x : Int} (h : r.ok n) (hf : f < n) (hk : isKn r f = false) (hx : (getR n r (f : Int)).1 = x) (k : Nat) : (getR n ⟨r.ins.set f x, r.kn.set f true⟩ (k : Int)).1 = (getR n r (k : Int)).1 := by
  have hg : guess r f = x := by
    rw [getR_nat, if_neg (by rw [hk]; simp), Nat.min_eq_left (by omega)] at hx
    exact hx
  rw [getR_nat, getR_nat, isKn_set h hf, inAt_set h hf, guess_set_right h hf hk hg]
  by_cases e : k = f
  · subst e
    simp [hf, hg, hk, Nat.min_eq_left (Nat.le_of_lt hf)]
  · simp only [e, decide_false, Bool.false_or, if_false]
end Go.Inp
end

section
namespace Go.Proofs.YtjdeeloemhjbhaaGreat
open Go.RowKit Go.Sep Go.Oct Go.Vm Go.Inp
set_option linter.unusedSimpArgs false

set_option maxRecDepth 100000 in
set_option maxHeartbeats 3200000 in
theorem rbBack_any {W0 w : World} {L : List Asn} {g b1 b2 : Nat} {r : SR} {q : PQ} {ring : List VS} {lo hi : Int} {u code : List (Int × Int)} {k : Nat} (S : Sat W0 w (blk b1 [.pointer (some ⟨g, 0, none⟩)] 31 :: blk b2 [.int .i64 k] 3 :: (RA g r q ring lo hi u code ++ L))) (hr : r.Ok)
    (hrl : ring.length = 16) (hro : ∀ s ∈ ring, s.Ok) {t : VS} (ht : ring[k % 16]? = some t) (htp : isP t = true) (htf : t.frame = k) (hlo : 0 ≤ lo ∧ lo ≤ k) (hhi : (k : Int) ≤ hi ∧ hi ≤ 10000) :
    Calls Tryz.prog 52 #[.pointer (some ⟨b1, 0, none⟩), .pointer (some ⟨b2, 0, none⟩)] w fun e w' => e = .returned (.tuple #[]) ∧ Sat W0 w' (blk b1 [.pointer (some ⟨g, 0, none⟩)] 31 :: blk b2 [.int .i64 k] 3 :: (RA g { r with now := t } q (ring.set (k % 16) t) (ringLo lo hi k) k u code ++ L)) := by
  have S1 : Sat W0 w (blk b1 [.pointer (some ⟨g, 0, none⟩)] 31 :: blk b2 [.int .i64 k] 3 :: blk g (rv r) 74 :: Qu r.qp q :: RG r.rp ring lo hi :: sps r.ua r.un r.uc u :: sis r.ca r.cn r.cc code :: L) := S
  have hto := hro t (List.mem_of_getElem? ht)
  have HTO := Lib.hid hto
  have HTL := Lib.hid (svals_length hto.len)
  have HRO := Lib.hid hro
  have HT := Lib.hid ht
  have HC := Lib.hid (⟨htf, hlo, hhi⟩ : _ ∧ _ ∧ _)
  clear hto hro ht htf hlo hhi S
  go_enter Tryz.func52, Tryz.ntmps52
  go_upto_region 0 with fail
  refine wp_region_drawn (N := 13) (LN := #[false, false, false, false, false, false, false, false, false, false, false, false, false]) (by kernel_rfl) (by kernel_rfl) (by kernel_rfl) ?_
  have S2 := S1.drew
  generalize w.drew = w2 at S2 ⊢
  clear S1
  refine wpAny_held (fun w' => w'.cell? ⟨b1, 0, none⟩ = some (.pointer (some ⟨g, 0, none⟩)) ∧ w'.cell? ⟨b2, 0, none⟩ = some (.int .i64 k) ∧ w'.cell? ⟨g, 5, none⟩ = some (.pointer (some ⟨r.rp, 0, none⟩))) ⟨(S2.cell 0 rfl 0 : _), (S2.cell 1 rfl 0 : _), (r_at hr (S2.sel [2])).rp⟩ (fun hHeld => ?_)
  refine wpAnyH_tk (i := 0) (v := ?_) (LN := #[true, false, false, false, false, false, false, false, false, false, false, false, false]) rfl (by kernel_rfl) (by kernel_rfl) (by kernel_rfl) (fun _ _ _ h => h) (by kernel_rfl) (by rfl) (by assumption) ?_ ?_
  rotate_left
  · intro w hSw; (try dsimp only at hSw); first | (go_simp; done) | (go_simp; with_reducible rfl)
  try simp only [Act.put, List.getElem_toArray, List.getElem_cons_zero, List.getElem_cons_succ, List.setIfInBounds_toArray, List.set_cons_zero, List.set_cons_succ]
  refine wpAnyH_tk (i := 1) (v := ?_) (LN := #[true, true, false, false, false, false, false, false, false, false, false, false, false]) rfl (by kernel_rfl) (by kernel_rfl) (by kernel_rfl) (fun _ _ _ h => h) (by kernel_rfl) (by rfl) (by assumption) ?_ ?_
  rotate_left
  · intro w hSw; (try dsimp only at hSw); first | (go_simp; done) | (go_simp; with_reducible rfl)
  try simp only [Act.put, List.getElem_toArray, List.getElem_cons_zero, List.getElem_cons_succ, List.setIfInBounds_toArray, List.set_cons_zero, List.set_cons_succ]
  refine wpAnyH_tk (i := 2) (v := ?_) (LN := #[true, true, true, false, false, false, false, false, false, false, false, false, false]) rfl (by kernel_rfl) (by kernel_rfl) (by kernel_rfl) (fun _ _ _ h => h) (by kernel_rfl) (by rfl) (by assumption) ?_ ?_
  rotate_left
  · intro w hSw; (try dsimp only at hSw); first | (go_simp; done) | (go_simp; with_reducible rfl)
  try simp only [Act.put, List.getElem_toArray, List.getElem_cons_zero, List.getElem_cons_succ, List.setIfInBounds_toArray, List.set_cons_zero, List.set_cons_succ]
  refine wpAnyH_tk (i := 3) (v := ?_) (LN := #[true, true, true, true, false, false, false, false, false, false, false, false, false]) rfl (by kernel_rfl) (by kernel_rfl) (by kernel_rfl) (fun _ _ _ h => h) (by kernel_rfl) (by rfl) (by assumption) ?_ ?_
  rotate_left
  · intro w hSw; (try dsimp only at hSw); first | (go_simp; done) | (go_simp; with_reducible rfl)
  try simp only [Act.put, List.getElem_toArray, List.getElem_cons_zero, List.getElem_cons_succ, List.setIfInBounds_toArray, List.set_cons_zero, List.set_cons_succ]
  refine wpAnyH_tk (i := 4) (v := ?_) (LN := #[true, true, true, true, true, false, false, false, false, false, false, false, false]) rfl (by kernel_rfl) (by kernel_rfl) (by kernel_rfl) (fun _ _ _ h => h) (by kernel_rfl) (by rfl) (by assumption) ?_ ?_
  rotate_left
  · intro w hSw; (try dsimp only at hSw); first | (go_simp; done) | (go_simp; with_reducible rfl)
  try simp only [Act.put, List.getElem_toArray, List.getElem_cons_zero, List.getElem_cons_succ, List.setIfInBounds_toArray, List.set_cons_zero, List.set_cons_succ]
  refine wpAnyH_tk (i := 5) (v := ?_) (LN := #[true, true, true, true, true, true, false, false, false, false, false, false, false]) rfl (by kernel_rfl) (by kernel_rfl) (by kernel_rfl) (fun _ _ _ h => h) (by kernel_rfl) (by rfl) (by assumption) ?_ ?_
  rotate_left
  · intro w hSw; (try dsimp only at hSw); first | (go_simp; done) | (go_simp; with_reducible rfl)
  try simp only [Act.put, List.getElem_toArray, List.getElem_cons_zero, List.getElem_cons_succ, List.setIfInBounds_toArray, List.set_cons_zero, List.set_cons_succ]
  refine wpAnyH_one (i := 6) (LN := #[true, true, true, true, true, true, true, false, false, false, false, false, false]) (by kernel_rfl) rfl (by kernel_rfl) ?_
  intro K hK
  go_simp
  go_at_call 50
  refine (ringGet_any (S2.sel [4]) hrl HRO.out (by have := HC.out; omega) (by have := HC.out; omega) HT.out).mono ?_
  rintro e w3 ⟨rfl, S3⟩
  go_wp2_with fail
  refine hK.out _ _ ⟨(S3.cell 1 rfl 0 : _), (S3.cell 2 rfl 0 : _), (r_at hr (S3.sel [3])).rp⟩ ?_
  clear hK K hHeld
  intro hHeld
  try simp only [Act.put, List.getElem_toArray, List.getElem_cons_zero, List.getElem_cons_succ, List.setIfInBounds_toArray, List.set_cons_zero, List.set_cons_succ]
  refine wpAnyH_tk (i := 7) (v := ?_) (LN := #[true, true, true, true, true, true, true, true, false, false, false, false, false]) rfl (by kernel_rfl) (by kernel_rfl) (by kernel_rfl) (fun _ _ _ h => h) (by kernel_rfl) (by rfl) (by assumption) ?_ ?_
  rotate_left
  · intro w hSw; (try dsimp only at hSw); first | (go_simp; done) | (go_simp; with_reducible rfl)
  try simp only [Act.put, List.getElem_toArray, List.getElem_cons_zero, List.getElem_cons_succ, List.setIfInBounds_toArray, List.set_cons_zero, List.set_cons_succ]
  refine wpAnyH_tk (i := 8) (v := ?_) (LN := #[true, true, true, true, true, true, true, true, true, false, false, false, false]) rfl (by kernel_rfl) (by kernel_rfl) (by kernel_rfl) (fun _ _ _ h => h) (by kernel_rfl) (by rfl) (by assumption) ?_ ?_
  rotate_left
  · intro w hSw; (try dsimp only at hSw); first | (go_simp; done) | (go_simp; with_reducible rfl)
  try simp only [Act.put, List.getElem_toArray, List.getElem_cons_zero, List.getElem_cons_succ, List.setIfInBounds_toArray, List.set_cons_zero, List.set_cons_succ]
  refine wpAnyH_tk (i := 9) (v := ?_) (LN := #[true, true, true, true, true, true, true, true, true, true, false, false, false]) rfl (by kernel_rfl) (by kernel_rfl) (by kernel_rfl) (fun _ _ _ h => h) (by kernel_rfl) (by rfl) (by assumption) ?_ ?_
  rotate_left
  · intro w hSw; (try dsimp only at hSw); first | (go_simp; done) | (go_simp; with_reducible rfl)
  try simp only [Act.put, List.getElem_toArray, List.getElem_cons_zero, List.getElem_cons_succ, List.setIfInBounds_toArray, List.set_cons_zero, List.set_cons_succ]
  refine wpAnyH_tk (i := 10) (v := ?_) (LN := #[true, true, true, true, true, true, true, true, true, true, true, false, false]) rfl (by kernel_rfl) (by kernel_rfl) (by kernel_rfl) (fun _ _ _ h => h) (by kernel_rfl) (by rfl) (by assumption) ?_ ?_
  rotate_left
  · intro w hSw; (try dsimp only at hSw); first | (go_simp; done) | (go_simp; with_reducible rfl)
  try simp only [Act.put, List.getElem_toArray, List.getElem_cons_zero, List.getElem_cons_succ, List.setIfInBounds_toArray, List.set_cons_zero, List.set_cons_succ]
  refine wpAnyH_tk (i := 11) (v := ?_) (LN := #[true, true, true, true, true, true, true, true, true, true, true, true, false]) rfl (by kernel_rfl) (by kernel_rfl) (by kernel_rfl) (fun _ _ _ h => h) (by kernel_rfl) (by rfl) (by assumption) ?_ ?_
  rotate_left
  · intro w hSw; (try dsimp only at hSw); first | (go_simp; done) | (go_simp; with_reducible rfl)
  try simp only [Act.put, List.getElem_toArray, List.getElem_cons_zero, List.getElem_cons_succ, List.setIfInBounds_toArray, List.set_cons_zero, List.set_cons_succ]
  refine wpAnyH_one (i := 12) (LN := #[true, true, true, true, true, true, true, true, true, true, true, true, true]) (by kernel_rfl) rfl (by kernel_rfl) ?_
  intro K hK
  refine step_store_sat (off := 8) (n := 20) rfl 46 _ _ rfl (S3.sel [3]) rfl rfl HTL.out (by rw [rv_length hr]; omega) Tryz.sizeS (svals_one t) ?_
  intro w4 S4
  rw [rv_setNow hr] at S4
  refine hK.out _ _ ⟨(S4.cell 2 rfl 0 : _), (S4.cell 3 rfl 0 : _), (r_at (r := { r with now := t }) ⟨HTO.out, hr.sure⟩ S4).rp⟩ ?_
  clear hK K hHeld
  intro hHeld
  try simp only [Act.put, List.getElem_toArray, List.getElem_cons_zero, List.getElem_cons_succ, List.setIfInBounds_toArray, List.set_cons_zero, List.set_cons_succ]
  refine ⟨by kernel_rfl, ?_⟩
  try simp only [Act.put, List.getElem_toArray, List.getElem_cons_zero, List.getElem_cons_succ, List.setIfInBounds_toArray, List.set_cons_zero, List.set_cons_succ]
  obtain ⟨r2, hr2⟩ : ∃ r2, ({ r with now := t } : SR) = r2 := ⟨_, rfl⟩
  have S5 : Sat W0 w4 (blk g (rv r2) 74 :: RG r.rp ring lo hi :: blk b1 [.pointer (some ⟨g, 0, none⟩)] 31 :: blk b2 [.int .i64 k] 3 :: Qu r.qp q :: sps r.ua r.un r.uc u :: sis r.ca r.cn r.cc code :: L) := by
    rw [← hr2]; exact S4
  have hr2o : r2.Ok := by rw [← hr2]; exact ⟨HTO.out, hr.sure⟩
  have HR2 := Lib.hid hr2
  have HA2 : Hid (∀ w', RAt w' g r2 → w'.cell? ⟨g, 5, none⟩ = some (.pointer (some ⟨r.rp, 0, none⟩)) ∧ (∀ j, j < 20 → w'.cell? ⟨g, 8 + j, none⟩ = (svals t)[j]?)) := by
    intro w' h
    have a := h.rp
    have b := h.now
    rw [← HR2.out] at a b
    exact ⟨a, b⟩
  clear hHeld S2 S3 S4 hr2
  go_upto_region 1 with fail
  refine wp_region_drawn (N := 9) (LN := #[false, false, false, false, false, false, false, false, false]) (by kernel_rfl) (by kernel_rfl) (by kernel_rfl) ?_
  have S6 := S5.drew
  generalize w4.drew = w6 at S6 ⊢
  clear S5
  obtain ⟨h5, hn⟩ := HA2.out _ (r_at hr2o S6)
  have hb := S6.cell 2 rfl 0
  simp only [List.getElem?_cons_zero] at hb
  refine wpAny_seg 0 8 1 9 #[true, true, true, true, true, true, true, true, false] (by kernel_rfl) (by kernel_rfl) ?_
  simp only [List.take_succ_cons, List.take_zero, List.drop_succ_cons, List.drop_zero]
  refine wpStill_step (fun K hK => ?_); go_simp; refine hK _ ?_; clear hK K
  try simp only [Act.put, List.getElem_toArray, List.getElem_cons_zero, List.getElem_cons_succ, List.setIfInBounds_toArray, List.set_cons_zero, List.set_cons_succ]
  refine wpStill_step (fun K hK => ?_); go_simp; refine hK _ ?_; clear hK K
  try simp only [Act.put, List.getElem_toArray, List.getElem_cons_zero, List.getElem_cons_succ, List.setIfInBounds_toArray, List.set_cons_zero, List.set_cons_succ]
  refine wpStill_step (fun K hK => ?_); go_simp; refine hK _ ?_; clear hK K
  try simp only [Act.put, List.getElem_toArray, List.getElem_cons_zero, List.getElem_cons_succ, List.setIfInBounds_toArray, List.set_cons_zero, List.set_cons_succ]
  refine wpStill_step (fun K hK => ?_); go_simp; refine hK _ ?_; clear hK K
  try simp only [Act.put, List.getElem_toArray, List.getElem_cons_zero, List.getElem_cons_succ, List.setIfInBounds_toArray, List.set_cons_zero, List.set_cons_succ]
  refine wpStill_step (fun K hK => ?_); go_simp; refine hK _ ?_; clear hK K
  try simp only [Act.put, List.getElem_toArray, List.getElem_cons_zero, List.getElem_cons_succ, List.setIfInBounds_toArray, List.set_cons_zero, List.set_cons_succ]
  refine wpStill_step (fun K hK => ?_); go_simp; refine hK _ ?_; clear hK K
  try simp only [Act.put, List.getElem_toArray, List.getElem_cons_zero, List.getElem_cons_succ, List.setIfInBounds_toArray, List.set_cons_zero, List.set_cons_succ]
  refine wpStill_step (fun K hK => ?_); go_simp; refine hK _ ?_; clear hK K
  try simp only [Act.put, List.getElem_toArray, List.getElem_cons_zero, List.getElem_cons_succ, List.setIfInBounds_toArray, List.set_cons_zero, List.set_cons_succ]
  refine wpStill_step (fun K hK => ?_); refine still_load_part rfl 46 _ rfl (n := 20) rfl hn HTL.out Tryz.underlying46 rfl Tryz.sizeS ?_; refine hK _ ?_; clear hK K
  try simp only [Act.put, List.getElem_toArray, List.getElem_cons_zero, List.getElem_cons_succ, List.setIfInBounds_toArray, List.set_cons_zero, List.set_cons_succ]
  refine wpStill_nil ?_
  refine wpAny_one (i := 8) (LN := #[true, true, true, true, true, true, true, true, true]) (by kernel_rfl) rfl (by kernel_rfl) ?_
  intro K hK
  go_simp
  go_at_call 30
  refine (ringPut_any (S6.sel [1]) hrl HRO.out HTO.out htp (.inr (by have := HC.out; omega)) (by have := HC.out; omega) HC.out.1).mono ?_
  rintro e w7 ⟨rfl, S7⟩
  go_wp2_with fail
  refine hK.out _ _ ?_
  clear hK K
  try simp only [Act.put, List.getElem_toArray, List.getElem_cons_zero, List.getElem_cons_succ, List.setIfInBounds_toArray, List.set_cons_zero, List.set_cons_succ]
  refine ⟨by kernel_rfl, ?_⟩
  try simp only [Act.put, List.getElem_toArray, List.getElem_cons_zero, List.getElem_cons_succ, List.setIfInBounds_toArray, List.set_cons_zero, List.set_cons_succ]
  go_wp2_with fail
  go_end0
  refine ⟨rfl, ?_⟩
  rw [HR2.out]
  have hq2 : r2.qp = r.qp ∧ r2.rp = r.rp ∧ r2.ua = r.ua ∧ r2.un = r.un ∧ r2.uc = r.uc ∧ r2.ca = r.ca ∧ r2.cn = r.cn ∧ r2.cc = r.cc := by rw [← HR2.out]; exact ⟨rfl, rfl, rfl, rfl, rfl, rfl, rfl, rfl⟩
  unfold RA
  rw [hq2.1, hq2.2.1, hq2.2.2.1, hq2.2.2.2.1, hq2.2.2.2.2.1, hq2.2.2.2.2.2.1, hq2.2.2.2.2.2.2.1, hq2.2.2.2.2.2.2.2]
  exact S7.sel [2, 2, 1, 1, 0]

set_option maxRecDepth 100000 in
set_option maxHeartbeats 3200000 in
theorem rbTold_any {W0 w : World} {L : List Asn} {g b1 b2 b3 : Nat} {r : SR} {q : PQ} {ring : List VS} {lo hi : Int} {u code : List (Int × Int)} {f : Nat} {x : Int} (S : Sat W0 w (blk b1 [.pointer (some ⟨g, 0, none⟩)] 31 :: blk b2 [.int .i64 f] 3 :: blk b3 [.int .u16 x] 38 :: (RA g r q ring lo hi u code ++ L))) (hr : r.Ok) (hq : q.ok) (hf : f ≤ 1000) :
    Calls Tryz.prog 32 #[.pointer (some ⟨b1, 0, none⟩), .pointer (some ⟨b2, 0, none⟩), .pointer (some ⟨b3, 0, none⟩)] w fun e w' => e = .returned (.tuple #[]) ∧ Sat W0 w' (blk b1 [.pointer (some ⟨g, 0, none⟩)] 31 :: blk b2 [.int .i64 f] 3 :: blk b3 [.int .u16 x] 38 :: (RA g { r with dn := f + 1 } (q.put r.me f x).2 ring lo hi u code ++ L)) := by
  have S1 : Sat W0 w (blk b1 [.pointer (some ⟨g, 0, none⟩)] 31 :: blk b2 [.int .i64 f] 3 :: blk b3 [.int .u16 x] 38 :: blk g (rv r) 74 :: Qu r.qp q :: RG r.rp ring lo hi :: sps r.ua r.un r.uc u :: sis r.ca r.cn r.cc code :: L) := S
  have hwf : IntKind.i64.wrap ((f : Int) + 1) = (f : Int) + 1 := by rw [IntKind.wrap_i64]; omega
  clear S
  go_enter Tryz.func32, Tryz.ntmps32
  go_upto_region 0 with fail
  refine wp_region_drawn (N := 11) (LN := #[false, false, false, false, false, false, false, false, false, false, false]) (by kernel_rfl) (by kernel_rfl) (by kernel_rfl) ?_
  have S2 := S1.drew
  generalize w.drew = w2 at S2 ⊢
  clear S1
  have hA := r_at hr (S2.sel [3])
  have cq := hA.qp
  have cm := hA.me
  clear hA
  have h1 := S2.cell 0 rfl 0
  have h2 := S2.cell 1 rfl 0
  have h3 := S2.cell 2 rfl 0
  simp only [List.getElem?_cons_zero] at h1 h2 h3
  refine wpAny_seg 0 10 1 11 #[true, true, true, true, true, true, true, true, true, true, false] (by kernel_rfl) (by kernel_rfl) ?_
  simp only [List.take_succ_cons, List.take_zero, List.drop_succ_cons, List.drop_zero]
  refine wpStill_step (fun K hK => ?_); go_simp; refine hK _ ?_; clear hK K
  try simp only [Act.put, List.getElem_toArray, List.getElem_cons_zero, List.getElem_cons_succ, List.setIfInBounds_toArray, List.set_cons_zero, List.set_cons_succ]
  refine wpStill_step (fun K hK => ?_); go_simp; refine hK _ ?_; clear hK K
  try simp only [Act.put, List.getElem_toArray, List.getElem_cons_zero, List.getElem_cons_succ, List.setIfInBounds_toArray, List.set_cons_zero, List.set_cons_succ]
  refine wpStill_step (fun K hK => ?_); go_simp; refine hK _ ?_; clear hK K
  try simp only [Act.put, List.getElem_toArray, List.getElem_cons_zero, List.getElem_cons_succ, List.setIfInBounds_toArray, List.set_cons_zero, List.set_cons_succ]
  refine wpStill_step (fun K hK => ?_); go_simp; refine hK _ ?_; clear hK K
  try simp only [Act.put, List.getElem_toArray, List.getElem_cons_zero, List.getElem_cons_succ, List.setIfInBounds_toArray, List.set_cons_zero, List.set_cons_succ]
  refine wpStill_step (fun K hK => ?_); go_simp; refine hK _ ?_; clear hK K
  try simp only [Act.put, List.getElem_toArray, List.getElem_cons_zero, List.getElem_cons_succ, List.setIfInBounds_toArray, List.set_cons_zero, List.set_cons_succ]
  refine wpStill_step (fun K hK => ?_); go_simp; refine hK _ ?_; clear hK K
  try simp only [Act.put, List.getElem_toArray, List.getElem_cons_zero, List.getElem_cons_succ, List.setIfInBounds_toArray, List.set_cons_zero, List.set_cons_succ]
  refine wpStill_step (fun K hK => ?_); go_simp; refine hK _ ?_; clear hK K
  try simp only [Act.put, List.getElem_toArray, List.getElem_cons_zero, List.getElem_cons_succ, List.setIfInBounds_toArray, List.set_cons_zero, List.set_cons_succ]
  refine wpStill_step (fun K hK => ?_); go_simp; refine hK _ ?_; clear hK K
  try simp only [Act.put, List.getElem_toArray, List.getElem_cons_zero, List.getElem_cons_succ, List.setIfInBounds_toArray, List.set_cons_zero, List.set_cons_succ]
  refine wpStill_step (fun K hK => ?_); go_simp; refine hK _ ?_; clear hK K
  try simp only [Act.put, List.getElem_toArray, List.getElem_cons_zero, List.getElem_cons_succ, List.setIfInBounds_toArray, List.set_cons_zero, List.set_cons_succ]
  refine wpStill_step (fun K hK => ?_); go_simp; refine hK _ ?_; clear hK K
  try simp only [Act.put, List.getElem_toArray, List.getElem_cons_zero, List.getElem_cons_succ, List.setIfInBounds_toArray, List.set_cons_zero, List.set_cons_succ]
  refine wpStill_nil ?_
  refine wpAny_one (i := 10) (LN := #[true, true, true, true, true, true, true, true, true, true, true]) (by kernel_rfl) rfl (by kernel_rfl) ?_
  intro K hK
  go_simp
  go_at_call 33
  refine (qput_any (S2.sel [4]) hq r.me f x).mono ?_
  unfold Putted
  rintro e w3 ⟨rfl, S3⟩
  go_wp2_with fail
  refine hK.out _ _ ?_
  clear hK K
  try simp only [Act.put, List.getElem_toArray, List.getElem_cons_zero, List.getElem_cons_succ, List.setIfInBounds_toArray, List.set_cons_zero, List.set_cons_succ]
  refine ⟨by kernel_rfl, ?_⟩
  try simp only [Act.put, List.getElem_toArray, List.getElem_cons_zero, List.getElem_cons_succ, List.setIfInBounds_toArray, List.set_cons_zero, List.set_cons_succ]
  clear cq cm h1 h2 h3 S2
  have hA := r_at hr (S3.sel [4])
  have n7 := hA.dn
  have m7 := hA.fz 7
  clear hA
  have h1 := S3.cell 1 rfl 0
  have h2 := S3.cell 2 rfl 0
  simp only [List.getElem?_cons_zero] at h1 h2
  go_wp2_with fail
  go_end0
  have S4 := S3.setCell (k := 7) (v := .int .i64 ((f : Int) + 1)) 4 rfl
  exact ⟨rfl, S4.sel [1, 1, 1, 1]⟩
set_option maxRecDepth 100000 in
theorem rbNone_any (w : World) : Calls Tryz.prog 34 #[] w fun e w' => e = .returned (.tuple #[]) ∧ w = w' := by
  go_enter Tryz.func34, Tryz.ntmps34
  go_wp2_with fail
  go_end0
  exact ⟨rfl, rfl⟩
end Go.Proofs.YtjdeeloemhjbhaaGreat
end

section
namespace Go.Proofs.YtjdeeloemhjbhaaGreat
open Go.RowKit Go.Sep Go.Oct Go.Vm Go.Inp
set_option linter.unusedSimpArgs false

/-- what goes leaves -/
def Gone (W0 : World) (L : List Asn) (g : Nat) (code : List (Int × Int)) (cap fuel seed : Int) (q : PQ) (r : SR) (n d : Nat) (e : Ending) (w' : World) : Prop :=
  e = .returned (.tuple #[]) ∧ ∃ r2 ring lo hi u n2 m2, SInv code cap fuel seed q r2 ring lo hi u n2 m2 d ∧ r2.Ok ∧ ((stA code cap fuel seed q n2).over = true ∨ n2 = d) ∧ (((stA code cap fuel seed q m2).over = true ∨ m2 = min q.both n2 ∨ q.both < m2) ∧ r.sure.frame ≤ m2 ∧ ((m2 : Int) ≤ r.sure.frame ∨ m2 ≤ q.both)) ∧
    r2.st = r.st + ((n2 : Int) - n) ∧ r2.wr = r.wr ∧ r2.me = r.me ∧ n ≤ n2 ∧ Sat W0 w' (RA g r2 q ring lo hi u code ++ L)
set_option maxRecDepth 100000 in
set_option maxHeartbeats 6400000 in
theorem rbGoes_any {W0 w : World} {L : List Asn} {g K : Nat} {caps : Array Value} (hent : Ent K) {code : List (Int × Int)} {cap fuel seed : Int} (hk : checkP code cap fuel = 0) (hs : 0 ≤ seed ∧ seed < 4294967296) (hcl : code.length ≤ 1000) {q : PQ} (hq : q.ok) (hqb : QB q)
    {r : SR} (hr : r.Ok) {ring : List VS} {lo hi : Int} {u : List (Int × Int)} {n m d : Nat} (hI : SInv code cap fuel seed q r ring lo hi u n m d) (hst9 : r.st ≤ 900000000)
    (hA : Calls Tryz.prog K caps w fun e w' => e = .returned (.tuple #[]) ∧ Sat W0 w' (RA g r q ring lo hi u code ++ L)) :
    Calls Tryz.prog 31 #[.pointer (some ⟨g, 0, none⟩), .func (.func K) #[] caps] w (Gone W0 L g code cap fuel seed q r n d) := by
  have HENT := Lib.hid hent
  unfold Ent at hent
  have HA := Lib.hid hA
  have HI := Lib.hid hI
  clear hA hI
  go_enter Tryz.func31, Tryz.ntmps31
  go_wp2_with (first
    | (refine HA.out.mono ?_; rintro e w1 ⟨rfl, S1⟩))
  go_loopg [] (d - n) (fun kk wr => ∃ (r2 : SR) (ring2 : List VS) (lo2 hi2 : Int) (u2 : List (Int × Int)) (n2 m2 : Nat), Hid (SInv code cap fuel seed q r2 ring2 lo2 hi2 u2 n2 m2 d) ∧ r2.Ok ∧ Hid (r2.st = r.st + ((n2 : Int) - n) ∧ r2.wr = r.wr ∧ r2.me = r.me ∧ n ≤ n2 ∧ m2 = m) ∧ Sat W0 wr (RA g r2 q ring2 lo2 hi2 u2 code ++ L) ∧ Hid (kk = d - n2))
  case atStart => exact ⟨r, ring, lo, hi, u, n, m, HI, hr, ⟨by omega, rfl, rfl, Nat.le_refl _, rfl⟩, S1, rfl⟩
  case round =>
    clear S1
    obtain ⟨r2, ring2, lo2, hi2, u2, n2, m2, HJ, hr2, HX, S2, HM⟩ := hrel
    have S3 : Sat W0 wr (blk g (rv r2) 74 :: (Qu r2.qp q :: RG r2.rp ring2 lo2 hi2 :: sps r2.ua r2.un r2.uc u2 :: sis r2.ca r2.cn r2.cc code :: L)) := S2
    have hnd := HJ.out.nd
    have HB : Hid (∀ w', RAt w' g r2 → w'.cell? ⟨g, 8, none⟩ = some (.int .i64 n2) ∧ w'.cell? ⟨g, 7, none⟩ = some (.int .i64 d)) := by
      intro w' h
      have a := h.nf
      have b := h.dn
      rw [HJ.out.now, HJ.out.fr] at a
      rw [HJ.out.dn] at b
      exact ⟨a, b⟩
    by_cases hgo : (stA code cap fuel seed q n2).over = false ∧ n2 < d
    · have hov : r2.now.over = false := by rw [HJ.out.now]; exact hgo.1
      have hlt : decide ((n2 : Int) < (d : Int)) = true := decide_eq_true (by omega)
      have hlt' : decide (n2 < d) = true := decide_eq_true hgo.2
      have HGO := Lib.hid hgo
      clear hgo
      go_upto_region 1 with fail
      refine wp_region_drawn (N := 18) (LN := #[false, false, false, false, false, false, false, false, false, false, false, false, false, false, false, false, false, false]) (by kernel_rfl) (by kernel_rfl) (by kernel_rfl) ?_
      have S4 := S3.drew
      generalize wr.drew = w4 at S4 ⊢
      clear S3 S2
      refine wpAny_held (fun w' => w'.cell? ⟨g, 26, none⟩ = some (.bool false) ∧ w'.cell? ⟨g, 8, none⟩ = some (.int .i64 n2) ∧ w'.cell? ⟨g, 7, none⟩ = some (.int .i64 d)) ⟨by rw [(r_at hr2 S4).no, hov], (HB.out _ (r_at hr2 S4)).1, (HB.out _ (r_at hr2 S4)).2⟩ (fun hHeld => ?_)
      refine wpAnyH_tk (i := 0) (v := ?_) (LN := #[true, false, false, false, false, false, false, false, false, false, false, false, false, false, false, false, false, false]) rfl (by kernel_rfl) (by kernel_rfl) (by kernel_rfl) (fun _ _ _ h => h) (by kernel_rfl) (by rfl) (by assumption) ?_ ?_
      rotate_left
      · intro w hSw; (try dsimp only at hSw); first | (go_simp; done) | (go_simp; with_reducible rfl)
      try simp only [Act.put, List.getElem_toArray, List.getElem_cons_zero, List.getElem_cons_succ, List.setIfInBounds_toArray, List.set_cons_zero, List.set_cons_succ]
      refine wpAnyH_tk (i := 1) (v := ?_) (LN := #[true, true, false, false, false, false, false, false, false, false, false, false, false, false, false, false, false, false]) rfl (by kernel_rfl) (by kernel_rfl) (by kernel_rfl) (fun _ _ _ h => h) (by kernel_rfl) (by rfl) (by assumption) ?_ ?_
      rotate_left
      · intro w hSw; (try dsimp only at hSw); first | (go_simp; done) | (go_simp; with_reducible rfl)
      try simp only [Act.put, List.getElem_toArray, List.getElem_cons_zero, List.getElem_cons_succ, List.setIfInBounds_toArray, List.set_cons_zero, List.set_cons_succ]
      refine wpAnyH_tk (i := 2) (v := ?_) (LN := #[true, true, true, false, false, false, false, false, false, false, false, false, false, false, false, false, false, false]) rfl (by kernel_rfl) (by kernel_rfl) (by kernel_rfl) (fun _ _ _ h => h) (by kernel_rfl) (by rfl) (by assumption) ?_ ?_
      rotate_left
      · intro w hSw; (try dsimp only at hSw); first | (go_simp; done) | (go_simp; with_reducible rfl)
      try simp only [Act.put, List.getElem_toArray, List.getElem_cons_zero, List.getElem_cons_succ, List.setIfInBounds_toArray, List.set_cons_zero, List.set_cons_succ]
      refine wpAnyH_tk (i := 3) (v := ?_) (LN := #[true, true, true, true, false, false, false, false, false, false, false, false, false, false, false, false, false, false]) rfl (by kernel_rfl) (by kernel_rfl) (by kernel_rfl) (fun _ _ _ h => h) (by kernel_rfl) (by rfl) (by assumption) ?_ ?_
      rotate_left
      · intro w hSw; (try dsimp only at hSw); first | (go_simp; done) | (go_simp; with_reducible rfl)
      try simp only [Act.put, List.getElem_toArray, List.getElem_cons_zero, List.getElem_cons_succ, List.setIfInBounds_toArray, List.set_cons_zero, List.set_cons_succ]
      refine wpAnyH_tk (i := 4) (v := ?_) (LN := #[true, true, true, true, true, false, false, false, false, false, false, false, false, false, false, false, false, false]) rfl (by kernel_rfl) (by kernel_rfl) (by kernel_rfl) (fun _ _ _ h => h) (by kernel_rfl) (by rfl) (by assumption) ?_ ?_
      rotate_left
      · intro w hSw; (try dsimp only at hSw); first | (go_simp; done) | (go_simp; with_reducible rfl)
      try simp only [Act.put, List.getElem_toArray, List.getElem_cons_zero, List.getElem_cons_succ, List.setIfInBounds_toArray, List.set_cons_zero, List.set_cons_succ]
      refine wpAnyH_tk (i := 5) (v := ?_) (LN := #[true, true, true, true, true, true, false, false, false, false, false, false, false, false, false, false, false, false]) rfl (by kernel_rfl) (by kernel_rfl) (by kernel_rfl) (fun _ _ _ h => h) (by kernel_rfl) (by rfl) (by assumption) ?_ ?_
      rotate_left
      · intro w hSw; (try dsimp only at hSw); first | (go_simp; done) | (go_simp; with_reducible rfl)
      try simp only [Act.put, List.getElem_toArray, List.getElem_cons_zero, List.getElem_cons_succ, List.setIfInBounds_toArray, List.set_cons_zero, List.set_cons_succ]
      refine wpAnyH_tk (i := 6) (v := ?_) (LN := #[true, true, true, true, true, true, true, false, false, false, false, false, false, false, false, false, false, false]) rfl (by kernel_rfl) (by kernel_rfl) (by kernel_rfl) (fun _ _ _ h => h) (by kernel_rfl) (by rfl) (by assumption) ?_ ?_
      rotate_left
      · intro w hSw; (try dsimp only at hSw); first | (go_simp; done) | (go_simp; with_reducible rfl)
      try simp only [Act.put, List.getElem_toArray, List.getElem_cons_zero, List.getElem_cons_succ, List.setIfInBounds_toArray, List.set_cons_zero, List.set_cons_succ]
      refine wpAnyH_tk (i := 7) (v := ?_) (LN := #[true, true, true, true, true, true, true, true, false, false, false, false, false, false, false, false, false, false]) rfl (by kernel_rfl) (by kernel_rfl) (by kernel_rfl) (fun _ _ _ h => h) (by kernel_rfl) (by rfl) (by assumption) ?_ ?_
      rotate_left
      · intro w hSw; (try dsimp only at hSw); first | (go_simp; done) | (go_simp; with_reducible rfl)
      try simp only [Act.put, List.getElem_toArray, List.getElem_cons_zero, List.getElem_cons_succ, List.setIfInBounds_toArray, List.set_cons_zero, List.set_cons_succ]
      refine wpAnyH_tk (i := 8) (v := ?_) (LN := #[true, true, true, true, true, true, true, true, true, false, false, false, false, false, false, false, false, false]) rfl (by kernel_rfl) (by kernel_rfl) (by kernel_rfl) (fun _ _ _ h => h) (by kernel_rfl) (by rfl) (by assumption) ?_ ?_
      rotate_left
      · intro w hSw; (try dsimp only at hSw); first | (go_simp; done) | (go_simp; with_reducible rfl)
      try simp only [Act.put, List.getElem_toArray, List.getElem_cons_zero, List.getElem_cons_succ, List.setIfInBounds_toArray, List.set_cons_zero, List.set_cons_succ]
      refine wpAnyH_tk (i := 9) (v := ?_) (LN := #[true, true, true, true, true, true, true, true, true, true, false, false, false, false, false, false, false, false]) rfl (by kernel_rfl) (by kernel_rfl) (by kernel_rfl) (fun _ _ _ h => h) (by kernel_rfl) (by rfl) (by assumption) ?_ ?_
      rotate_left
      · intro w hSw; (try dsimp only at hSw); first | (go_simp; done) | (go_simp; with_reducible rfl)
      try simp only [Act.put, List.getElem_toArray, List.getElem_cons_zero, List.getElem_cons_succ, List.setIfInBounds_toArray, List.set_cons_zero, List.set_cons_succ]
      refine wpAnyH_tk (i := 10) (v := ?_) (LN := #[true, true, true, true, true, true, true, true, true, true, true, false, false, false, false, false, false, false]) rfl (by kernel_rfl) (by kernel_rfl) (by kernel_rfl) (fun _ _ _ h => h) (by kernel_rfl) (by rfl) (by assumption) ?_ ?_
      rotate_left
      · intro w hSw; (try dsimp only at hSw); first | (go_simp; done) | (go_simp; with_reducible rfl)
      try simp only [Act.put, List.getElem_toArray, List.getElem_cons_zero, List.getElem_cons_succ, List.setIfInBounds_toArray, List.set_cons_zero, List.set_cons_succ]
      refine wpAnyH_tk (i := 11) (v := ?_) (LN := #[true, true, true, true, true, true, true, true, true, true, true, true, false, false, false, false, false, false]) rfl (by kernel_rfl) (by kernel_rfl) (by kernel_rfl) (fun _ _ _ h => h) (by kernel_rfl) (by rfl) (by assumption) ?_ ?_
      rotate_left
      · intro w hSw; (try dsimp only at hSw); first | (go_simp; done) | (go_simp; with_reducible rfl)
      try simp only [Act.put, List.getElem_toArray, List.getElem_cons_zero, List.getElem_cons_succ, List.setIfInBounds_toArray, List.set_cons_zero, List.set_cons_succ]
      refine wpAnyH_tk (i := 12) (v := ?_) (LN := #[true, true, true, true, true, true, true, true, true, true, true, true, true, false, false, false, false, false]) rfl (by kernel_rfl) (by kernel_rfl) (by kernel_rfl) (fun _ _ _ h => h) (by kernel_rfl) (by rfl) (by assumption) ?_ ?_
      rotate_left
      · intro w hSw; (try dsimp only at hSw); first | (go_simp; done) | (go_simp; with_reducible rfl)
      try simp only [Act.put, List.getElem_toArray, List.getElem_cons_zero, List.getElem_cons_succ, List.setIfInBounds_toArray, List.set_cons_zero, List.set_cons_succ]
      refine wpAnyH_tk (i := 13) (v := ?_) (LN := #[true, true, true, true, true, true, true, true, true, true, true, true, true, true, false, false, false, false]) rfl (by kernel_rfl) (by kernel_rfl) (by kernel_rfl) (fun _ _ _ h => h) (by kernel_rfl) (by rfl) (by assumption) ?_ ?_
      rotate_left
      · intro w hSw; (try dsimp only at hSw); first | (go_simp; done) | (go_simp; with_reducible rfl)
      try simp only [Act.put, List.getElem_toArray, List.getElem_cons_zero, List.getElem_cons_succ, List.setIfInBounds_toArray, List.set_cons_zero, List.set_cons_succ]
      refine wpAnyH_tk (i := 14) (v := ?_) (LN := #[true, true, true, true, true, true, true, true, true, true, true, true, true, true, true, false, false, false]) rfl (by kernel_rfl) (by kernel_rfl) (by kernel_rfl) (fun _ _ _ h => h) (by kernel_rfl) (by rfl) (by assumption) ?_ ?_
      rotate_left
      · intro w hSw; (try dsimp only at hSw); first | (go_simp; done) | (go_simp; with_reducible rfl)
      try simp only [Act.put, List.getElem_toArray, List.getElem_cons_zero, List.getElem_cons_succ, List.setIfInBounds_toArray, List.set_cons_zero, List.set_cons_succ]
      refine wpAnyH_tk (i := 15) (v := ?_) (LN := #[true, true, true, true, true, true, true, true, true, true, true, true, true, true, true, true, false, false]) rfl (by kernel_rfl) (by kernel_rfl) (by kernel_rfl) (fun _ _ _ h => h) (by kernel_rfl) (by rfl) (by assumption) ?_ ?_
      rotate_left
      · intro w hSw; (try dsimp only at hSw); first | (go_simp; done) | (go_simp; with_reducible rfl)
      try simp only [Act.put, List.getElem_toArray, List.getElem_cons_zero, List.getElem_cons_succ, List.setIfInBounds_toArray, List.set_cons_zero, List.set_cons_succ]
      refine wpAnyH_tk (i := 16) (v := ?_) (LN := #[true, true, true, true, true, true, true, true, true, true, true, true, true, true, true, true, true, false]) rfl (by kernel_rfl) (by kernel_rfl) (by kernel_rfl) (fun _ _ _ h => h) (by kernel_rfl) (by rfl) (by assumption) ?_ ?_
      rotate_left
      · intro w hSw; (try dsimp only at hSw); first | (go_simp; done) | (go_simp; with_reducible rfl)
      try simp only [Act.put, List.getElem_toArray, List.getElem_cons_zero, List.getElem_cons_succ, List.setIfInBounds_toArray, List.set_cons_zero, List.set_cons_succ]
      refine wpAnyH_tk (i := 17) (v := ?_) (LN := #[true, true, true, true, true, true, true, true, true, true, true, true, true, true, true, true, true, true]) rfl (by kernel_rfl) (by kernel_rfl) (by kernel_rfl) (fun _ _ _ h => h) (by kernel_rfl) (by rfl) (by assumption) ?_ ?_
      rotate_left
      · intro w hSw; (try dsimp only at hSw); first | (go_simp; done) | (go_simp; with_reducible rfl)
      try simp only [Act.put, List.getElem_toArray, List.getElem_cons_zero, List.getElem_cons_succ, List.setIfInBounds_toArray, List.set_cons_zero, List.set_cons_succ]
      refine ⟨by kernel_rfl, ?_⟩
      try simp only [Act.put, List.getElem_toArray, List.getElem_cons_zero, List.getElem_cons_succ, List.setIfInBounds_toArray, List.set_cons_zero, List.set_cons_succ]
      have hstl := HX.out.1
      have hgo2 := HGO.out.2
      have HFR := Lib.hid (HJ.out.frame hk hs hqb HGO.out.1 HGO.out.2 (by omega))
      have hfr := HFR.out none 0
      have HC := Lib.hid (rbFrame_any (f := n2) (t := stA code cap fuel seed q (n2 + 1)) (p0 := (q.get 0 (n2 : Int)).1) (p1 := (q.get 1 (n2 : Int)).1) (e0 := 0) S4 hr2 hq (by rw [HJ.out.now, HJ.out.fr]) (by omega) HJ.out.ul.1 (by have := HJ.out.ul.2; omega) rfl rfl (hqb 0 n2) (hqb 1 n2) hfr.1 hfr.2.1 hfr.2.2.1 hfr.2.2.2.1 HJ.out.rl HJ.out.ro (by have := HJ.out.hlo; have := HJ.out.mn; omega) HJ.out.hhi hcl (by have := HJ.out.st; omega))
      clear hfr hHeld hgo2
      go_wp2_with (first
        | (go_at_call 48; refine HC.out.mono ?_; unfold FrPost; rintro e w5 ⟨rfl, ua, uc, S5⟩))
      have hfr := HFR.out ua uc
      go_roundg (d - (n2 + 1))
      case measure => have := HM.out; have := HGO.out.2; omega
      case rel => exact ⟨_, _, _, _, _, n2 + 1, m2, hfr.2.2.2.2, ⟨hfr.2.1, hr2.sure⟩, ⟨by simp only; omega, HX.out.2.1, HX.out.2.2.1, by have := HX.out.2.2.2.1; omega, HX.out.2.2.2.2⟩, S5, rfl⟩
    · have HEX : Hid ((stA code cap fuel seed q n2).over = true ∨ n2 = d) := by
        show _ ∨ _
        cases h : (stA code cap fuel seed q n2).over with
        | true => exact .inl rfl
        | false => exact .inr (by have : ¬ n2 < d := fun h2 => hgo ⟨h, h2⟩
                                  omega)
      clear hgo HM
      cases hov : r2.now.over
      focus
        have hnd2 : n2 = d := by
          rcases HEX.out with h | h
          · rw [HJ.out.now, h] at hov; cases hov
          · exact h
        have hlt : decide ((n2 : Int) < (d : Int)) = false := decide_eq_false (by omega)
        have hlt' : decide (n2 < d) = false := decide_eq_false (by omega)
        clear hnd2
        go_upto_region 1 with fail
        refine wp_region_drawn (N := 18) (LN := #[false, false, false, false, false, false, false, false, false, false, false, false, false, false, false, false, false, false]) (by kernel_rfl) (by kernel_rfl) (by kernel_rfl) ?_
        have S4 := S3.drew
        generalize wr.drew = w4 at S4 ⊢
        clear S3 S2
        refine wpAny_held (fun w' => w'.cell? ⟨g, 26, none⟩ = some (.bool false) ∧ w'.cell? ⟨g, 8, none⟩ = some (.int .i64 n2) ∧ w'.cell? ⟨g, 7, none⟩ = some (.int .i64 d)) ⟨by rw [(r_at hr2 S4).no, hov], (HB.out _ (r_at hr2 S4)).1, (HB.out _ (r_at hr2 S4)).2⟩ (fun hHeld => ?_)
        refine wpAnyH_tk (i := 0) (v := ?_) (LN := #[true, false, false, false, false, false, false, false, false, false, false, false, false, false, false, false, false, false]) rfl (by kernel_rfl) (by kernel_rfl) (by kernel_rfl) (fun _ _ _ h => h) (by kernel_rfl) (by rfl) (by assumption) ?_ ?_
        rotate_left
        · intro w hSw; (try dsimp only at hSw); first | (go_simp; done) | (go_simp; with_reducible rfl)
        try simp only [Act.put, List.getElem_toArray, List.getElem_cons_zero, List.getElem_cons_succ, List.setIfInBounds_toArray, List.set_cons_zero, List.set_cons_succ]
        refine wpAnyH_tk (i := 1) (v := ?_) (LN := #[true, true, false, false, false, false, false, false, false, false, false, false, false, false, false, false, false, false]) rfl (by kernel_rfl) (by kernel_rfl) (by kernel_rfl) (fun _ _ _ h => h) (by kernel_rfl) (by rfl) (by assumption) ?_ ?_
        rotate_left
        · intro w hSw; (try dsimp only at hSw); first | (go_simp; done) | (go_simp; with_reducible rfl)
        try simp only [Act.put, List.getElem_toArray, List.getElem_cons_zero, List.getElem_cons_succ, List.setIfInBounds_toArray, List.set_cons_zero, List.set_cons_succ]
        refine wpAnyH_tk (i := 2) (v := ?_) (LN := #[true, true, true, false, false, false, false, false, false, false, false, false, false, false, false, false, false, false]) rfl (by kernel_rfl) (by kernel_rfl) (by kernel_rfl) (fun _ _ _ h => h) (by kernel_rfl) (by rfl) (by assumption) ?_ ?_
        rotate_left
        · intro w hSw; (try dsimp only at hSw); first | (go_simp; done) | (go_simp; with_reducible rfl)
        try simp only [Act.put, List.getElem_toArray, List.getElem_cons_zero, List.getElem_cons_succ, List.setIfInBounds_toArray, List.set_cons_zero, List.set_cons_succ]
        refine wpAnyH_tk (i := 3) (v := ?_) (LN := #[true, true, true, true, false, false, false, false, false, false, false, false, false, false, false, false, false, false]) rfl (by kernel_rfl) (by kernel_rfl) (by kernel_rfl) (fun _ _ _ h => h) (by kernel_rfl) (by rfl) (by assumption) ?_ ?_
        rotate_left
        · intro w hSw; (try dsimp only at hSw); first | (go_simp; done) | (go_simp; with_reducible rfl)
        try simp only [Act.put, List.getElem_toArray, List.getElem_cons_zero, List.getElem_cons_succ, List.setIfInBounds_toArray, List.set_cons_zero, List.set_cons_succ]
        refine wpAnyH_tk (i := 4) (v := ?_) (LN := #[true, true, true, true, true, false, false, false, false, false, false, false, false, false, false, false, false, false]) rfl (by kernel_rfl) (by kernel_rfl) (by kernel_rfl) (fun _ _ _ h => h) (by kernel_rfl) (by rfl) (by assumption) ?_ ?_
        rotate_left
        · intro w hSw; (try dsimp only at hSw); first | (go_simp; done) | (go_simp; with_reducible rfl)
        try simp only [Act.put, List.getElem_toArray, List.getElem_cons_zero, List.getElem_cons_succ, List.setIfInBounds_toArray, List.set_cons_zero, List.set_cons_succ]
        refine wpAnyH_tk (i := 5) (v := ?_) (LN := #[true, true, true, true, true, true, false, false, false, false, false, false, false, false, false, false, false, false]) rfl (by kernel_rfl) (by kernel_rfl) (by kernel_rfl) (fun _ _ _ h => h) (by kernel_rfl) (by rfl) (by assumption) ?_ ?_
        rotate_left
        · intro w hSw; (try dsimp only at hSw); first | (go_simp; done) | (go_simp; with_reducible rfl)
        try simp only [Act.put, List.getElem_toArray, List.getElem_cons_zero, List.getElem_cons_succ, List.setIfInBounds_toArray, List.set_cons_zero, List.set_cons_succ]
        refine wpAnyH_tk (i := 6) (v := ?_) (LN := #[true, true, true, true, true, true, true, false, false, false, false, false, false, false, false, false, false, false]) rfl (by kernel_rfl) (by kernel_rfl) (by kernel_rfl) (fun _ _ _ h => h) (by kernel_rfl) (by rfl) (by assumption) ?_ ?_
        rotate_left
        · intro w hSw; (try dsimp only at hSw); first | (go_simp; done) | (go_simp; with_reducible rfl)
        try simp only [Act.put, List.getElem_toArray, List.getElem_cons_zero, List.getElem_cons_succ, List.setIfInBounds_toArray, List.set_cons_zero, List.set_cons_succ]
        refine wpAnyH_tk (i := 7) (v := ?_) (LN := #[true, true, true, true, true, true, true, true, false, false, false, false, false, false, false, false, false, false]) rfl (by kernel_rfl) (by kernel_rfl) (by kernel_rfl) (fun _ _ _ h => h) (by kernel_rfl) (by rfl) (by assumption) ?_ ?_
        rotate_left
        · intro w hSw; (try dsimp only at hSw); first | (go_simp; done) | (go_simp; with_reducible rfl)
        try simp only [Act.put, List.getElem_toArray, List.getElem_cons_zero, List.getElem_cons_succ, List.setIfInBounds_toArray, List.set_cons_zero, List.set_cons_succ]
        refine wpAnyH_tk (i := 8) (v := ?_) (LN := #[true, true, true, true, true, true, true, true, true, false, false, false, false, false, false, false, false, false]) rfl (by kernel_rfl) (by kernel_rfl) (by kernel_rfl) (fun _ _ _ h => h) (by kernel_rfl) (by rfl) (by assumption) ?_ ?_
        rotate_left
        · intro w hSw; (try dsimp only at hSw); first | (go_simp; done) | (go_simp; with_reducible rfl)
        try simp only [Act.put, List.getElem_toArray, List.getElem_cons_zero, List.getElem_cons_succ, List.setIfInBounds_toArray, List.set_cons_zero, List.set_cons_succ]
        refine wpAnyH_tk (i := 9) (v := ?_) (LN := #[true, true, true, true, true, true, true, true, true, true, false, false, false, false, false, false, false, false]) rfl (by kernel_rfl) (by kernel_rfl) (by kernel_rfl) (fun _ _ _ h => h) (by kernel_rfl) (by rfl) (by assumption) ?_ ?_
        rotate_left
        · intro w hSw; (try dsimp only at hSw); first | (go_simp; done) | (go_simp; with_reducible rfl)
        try simp only [Act.put, List.getElem_toArray, List.getElem_cons_zero, List.getElem_cons_succ, List.setIfInBounds_toArray, List.set_cons_zero, List.set_cons_succ]
        refine wpAnyH_tk (i := 10) (v := ?_) (LN := #[true, true, true, true, true, true, true, true, true, true, true, false, false, false, false, false, false, false]) rfl (by kernel_rfl) (by kernel_rfl) (by kernel_rfl) (fun _ _ _ h => h) (by kernel_rfl) (by rfl) (by assumption) ?_ ?_
        rotate_left
        · intro w hSw; (try dsimp only at hSw); first | (go_simp; done) | (go_simp; with_reducible rfl)
        try simp only [Act.put, List.getElem_toArray, List.getElem_cons_zero, List.getElem_cons_succ, List.setIfInBounds_toArray, List.set_cons_zero, List.set_cons_succ]
        refine wpAnyH_tk (i := 11) (v := ?_) (LN := #[true, true, true, true, true, true, true, true, true, true, true, true, false, false, false, false, false, false]) rfl (by kernel_rfl) (by kernel_rfl) (by kernel_rfl) (fun _ _ _ h => h) (by kernel_rfl) (by rfl) (by assumption) ?_ ?_
        rotate_left
        · intro w hSw; (try dsimp only at hSw); first | (go_simp; done) | (go_simp; with_reducible rfl)
        try simp only [Act.put, List.getElem_toArray, List.getElem_cons_zero, List.getElem_cons_succ, List.setIfInBounds_toArray, List.set_cons_zero, List.set_cons_succ]
        refine wpAnyH_tk (i := 12) (v := ?_) (LN := #[true, true, true, true, true, true, true, true, true, true, true, true, true, false, false, false, false, false]) rfl (by kernel_rfl) (by kernel_rfl) (by kernel_rfl) (fun _ _ _ h => h) (by kernel_rfl) (by rfl) (by assumption) ?_ ?_
        rotate_left
        · intro w hSw; (try dsimp only at hSw); first | (go_simp; done) | (go_simp; with_reducible rfl)
        try simp only [Act.put, List.getElem_toArray, List.getElem_cons_zero, List.getElem_cons_succ, List.setIfInBounds_toArray, List.set_cons_zero, List.set_cons_succ]
        refine wpAnyH_tk (i := 13) (v := ?_) (LN := #[true, true, true, true, true, true, true, true, true, true, true, true, true, true, false, false, false, false]) rfl (by kernel_rfl) (by kernel_rfl) (by kernel_rfl) (fun _ _ _ h => h) (by kernel_rfl) (by rfl) (by assumption) ?_ ?_
        rotate_left
        · intro w hSw; (try dsimp only at hSw); first | (go_simp; done) | (go_simp; with_reducible rfl)
        try simp only [Act.put, List.getElem_toArray, List.getElem_cons_zero, List.getElem_cons_succ, List.setIfInBounds_toArray, List.set_cons_zero, List.set_cons_succ]
        refine wpAnyH_tk (i := 14) (v := ?_) (LN := #[true, true, true, true, true, true, true, true, true, true, true, true, true, true, true, false, false, false]) rfl (by kernel_rfl) (by kernel_rfl) (by kernel_rfl) (fun _ _ _ h => h) (by kernel_rfl) (by rfl) (by assumption) ?_ ?_
        rotate_left
        · intro w hSw; (try dsimp only at hSw); first | (go_simp; done) | (go_simp; with_reducible rfl)
        try simp only [Act.put, List.getElem_toArray, List.getElem_cons_zero, List.getElem_cons_succ, List.setIfInBounds_toArray, List.set_cons_zero, List.set_cons_succ]
        refine wpAnyH_tk (i := 15) (v := ?_) (LN := #[true, true, true, true, true, true, true, true, true, true, true, true, true, true, true, true, false, false]) rfl (by kernel_rfl) (by kernel_rfl) (by kernel_rfl) (fun _ _ _ h => h) (by kernel_rfl) (by rfl) (by assumption) ?_ ?_
        rotate_left
        · intro w hSw; (try dsimp only at hSw); first | (go_simp; done) | (go_simp; with_reducible rfl)
        try simp only [Act.put, List.getElem_toArray, List.getElem_cons_zero, List.getElem_cons_succ, List.setIfInBounds_toArray, List.set_cons_zero, List.set_cons_succ]
        refine wpAnyH_tk (i := 16) (v := ?_) (LN := #[true, true, true, true, true, true, true, true, true, true, true, true, true, true, true, true, true, false]) rfl (by kernel_rfl) (by kernel_rfl) (by kernel_rfl) (fun _ _ _ h => h) (by kernel_rfl) (by rfl) (by assumption) ?_ ?_
        rotate_left
        · intro w hSw; (try dsimp only at hSw); first | (go_simp; done) | (go_simp; with_reducible rfl)
        try simp only [Act.put, List.getElem_toArray, List.getElem_cons_zero, List.getElem_cons_succ, List.setIfInBounds_toArray, List.set_cons_zero, List.set_cons_succ]
        refine wpAnyH_tk (i := 17) (v := ?_) (LN := #[true, true, true, true, true, true, true, true, true, true, true, true, true, true, true, true, true, true]) rfl (by kernel_rfl) (by kernel_rfl) (by kernel_rfl) (fun _ _ _ h => h) (by kernel_rfl) (by rfl) (by assumption) ?_ ?_
        rotate_left
        · intro w hSw; (try dsimp only at hSw); first | (go_simp; done) | (go_simp; with_reducible rfl)
        try simp only [Act.put, List.getElem_toArray, List.getElem_cons_zero, List.getElem_cons_succ, List.setIfInBounds_toArray, List.set_cons_zero, List.set_cons_succ]
        refine ⟨by kernel_rfl, ?_⟩
        try simp only [Act.put, List.getElem_toArray, List.getElem_cons_zero, List.getElem_cons_succ, List.setIfInBounds_toArray, List.set_cons_zero, List.set_cons_succ]
        go_upto_block 1 with fail
        clear hlt hlt' hHeld hov
      rotate_left
      focus
        go_upto_region 1 with fail
        refine wp_region_drawn (N := 18) (LN := #[false, false, false, false, false, false, false, false, false, false, false, false, false, false, false, false, false, false]) (by kernel_rfl) (by kernel_rfl) (by kernel_rfl) ?_
        have S4 := S3.drew
        generalize wr.drew = w4 at S4 ⊢
        clear S3 S2
        refine wpAny_held (fun w' => w'.cell? ⟨g, 26, none⟩ = some (.bool true)) (by rw [(r_at hr2 S4).no, hov]) (fun hHeld => ?_)
        refine wpAnyH_tk (i := 0) (v := ?_) (LN := #[true, false, false, false, false, false, false, false, false, false, false, false, false, false, false, false, false, false]) rfl (by kernel_rfl) (by kernel_rfl) (by kernel_rfl) (fun _ _ _ h => h) (by kernel_rfl) (by rfl) (by assumption) ?_ ?_
        rotate_left
        · intro w hSw; (try dsimp only at hSw); first | (go_simp; done) | (go_simp; with_reducible rfl)
        try simp only [Act.put, List.getElem_toArray, List.getElem_cons_zero, List.getElem_cons_succ, List.setIfInBounds_toArray, List.set_cons_zero, List.set_cons_succ]
        refine wpAnyH_tk (i := 1) (v := ?_) (LN := #[true, true, false, false, false, false, false, false, false, false, false, false, false, false, false, false, false, false]) rfl (by kernel_rfl) (by kernel_rfl) (by kernel_rfl) (fun _ _ _ h => h) (by kernel_rfl) (by rfl) (by assumption) ?_ ?_
        rotate_left
        · intro w hSw; (try dsimp only at hSw); first | (go_simp; done) | (go_simp; with_reducible rfl)
        try simp only [Act.put, List.getElem_toArray, List.getElem_cons_zero, List.getElem_cons_succ, List.setIfInBounds_toArray, List.set_cons_zero, List.set_cons_succ]
        refine wpAnyH_tk (i := 2) (v := ?_) (LN := #[true, true, true, false, false, false, false, false, false, false, false, false, false, false, false, false, false, false]) rfl (by kernel_rfl) (by kernel_rfl) (by kernel_rfl) (fun _ _ _ h => h) (by kernel_rfl) (by rfl) (by assumption) ?_ ?_
        rotate_left
        · intro w hSw; (try dsimp only at hSw); first | (go_simp; done) | (go_simp; with_reducible rfl)
        try simp only [Act.put, List.getElem_toArray, List.getElem_cons_zero, List.getElem_cons_succ, List.setIfInBounds_toArray, List.set_cons_zero, List.set_cons_succ]
        refine wpAnyH_tk (i := 3) (v := ?_) (LN := #[true, true, true, true, false, false, false, false, false, false, false, false, false, false, false, false, false, false]) rfl (by kernel_rfl) (by kernel_rfl) (by kernel_rfl) (fun _ _ _ h => h) (by kernel_rfl) (by rfl) (by assumption) ?_ ?_
        rotate_left
        · intro w hSw; (try dsimp only at hSw); first | (go_simp; done) | (go_simp; with_reducible rfl)
        try simp only [Act.put, List.getElem_toArray, List.getElem_cons_zero, List.getElem_cons_succ, List.setIfInBounds_toArray, List.set_cons_zero, List.set_cons_succ]
        refine wpAnyH_tk (i := 4) (v := ?_) (LN := #[true, true, true, true, true, false, false, false, false, false, false, false, false, false, false, false, false, false]) rfl (by kernel_rfl) (by kernel_rfl) (by kernel_rfl) (fun _ _ _ h => h) (by kernel_rfl) (by rfl) (by assumption) ?_ ?_
        rotate_left
        · intro w hSw; (try dsimp only at hSw); first | (go_simp; done) | (go_simp; with_reducible rfl)
        try simp only [Act.put, List.getElem_toArray, List.getElem_cons_zero, List.getElem_cons_succ, List.setIfInBounds_toArray, List.set_cons_zero, List.set_cons_succ]
        refine wpAnyH_tk (i := 5) (v := ?_) (LN := #[true, true, true, true, true, true, false, false, false, false, false, false, false, false, false, false, false, false]) rfl (by kernel_rfl) (by kernel_rfl) (by kernel_rfl) (fun _ _ _ h => h) (by kernel_rfl) (by rfl) (by assumption) ?_ ?_
        rotate_left
        · intro w hSw; (try dsimp only at hSw); first | (go_simp; done) | (go_simp; with_reducible rfl)
        try simp only [Act.put, List.getElem_toArray, List.getElem_cons_zero, List.getElem_cons_succ, List.setIfInBounds_toArray, List.set_cons_zero, List.set_cons_succ]
        refine wpAnyH_tk (i := 6) (v := ?_) (LN := #[true, true, true, true, true, true, true, false, false, false, false, false, false, false, false, false, false, false]) rfl (by kernel_rfl) (by kernel_rfl) (by kernel_rfl) (fun _ _ _ h => h) (by kernel_rfl) (by rfl) (by assumption) ?_ ?_
        rotate_left
        · intro w hSw; (try dsimp only at hSw); first | (go_simp; done) | (go_simp; with_reducible rfl)
        try simp only [Act.put, List.getElem_toArray, List.getElem_cons_zero, List.getElem_cons_succ, List.setIfInBounds_toArray, List.set_cons_zero, List.set_cons_succ]
        refine wpAnyH_off (i := 7) (LN := #[true, true, true, true, true, true, true, true, false, false, false, false, false, false, false, false, false, false]) rfl (by kernel_rfl) (by kernel_rfl) (by kernel_rfl) (fun _ _ _ h => h) (by kernel_rfl) (by rfl) (by assumption) ?_
        try simp only [Act.put, List.getElem_toArray, List.getElem_cons_zero, List.getElem_cons_succ, List.setIfInBounds_toArray, List.set_cons_zero, List.set_cons_succ]
        refine wpAnyH_off (i := 8) (LN := #[true, true, true, true, true, true, true, true, true, false, false, false, false, false, false, false, false, false]) rfl (by kernel_rfl) (by kernel_rfl) (by kernel_rfl) (fun _ _ _ h => h) (by kernel_rfl) (by rfl) (by assumption) ?_
        try simp only [Act.put, List.getElem_toArray, List.getElem_cons_zero, List.getElem_cons_succ, List.setIfInBounds_toArray, List.set_cons_zero, List.set_cons_succ]
        refine wpAnyH_off (i := 9) (LN := #[true, true, true, true, true, true, true, true, true, true, false, false, false, false, false, false, false, false]) rfl (by kernel_rfl) (by kernel_rfl) (by kernel_rfl) (fun _ _ _ h => h) (by kernel_rfl) (by rfl) (by assumption) ?_
        try simp only [Act.put, List.getElem_toArray, List.getElem_cons_zero, List.getElem_cons_succ, List.setIfInBounds_toArray, List.set_cons_zero, List.set_cons_succ]
        refine wpAnyH_off (i := 10) (LN := #[true, true, true, true, true, true, true, true, true, true, true, false, false, false, false, false, false, false]) rfl (by kernel_rfl) (by kernel_rfl) (by kernel_rfl) (fun _ _ _ h => h) (by kernel_rfl) (by rfl) (by assumption) ?_
        try simp only [Act.put, List.getElem_toArray, List.getElem_cons_zero, List.getElem_cons_succ, List.setIfInBounds_toArray, List.set_cons_zero, List.set_cons_succ]
        refine wpAnyH_off (i := 11) (LN := #[true, true, true, true, true, true, true, true, true, true, true, true, false, false, false, false, false, false]) rfl (by kernel_rfl) (by kernel_rfl) (by kernel_rfl) (fun _ _ _ h => h) (by kernel_rfl) (by rfl) (by assumption) ?_
        try simp only [Act.put, List.getElem_toArray, List.getElem_cons_zero, List.getElem_cons_succ, List.setIfInBounds_toArray, List.set_cons_zero, List.set_cons_succ]
        refine wpAnyH_off (i := 12) (LN := #[true, true, true, true, true, true, true, true, true, true, true, true, true, false, false, false, false, false]) rfl (by kernel_rfl) (by kernel_rfl) (by kernel_rfl) (fun _ _ _ h => h) (by kernel_rfl) (by rfl) (by assumption) ?_
        try simp only [Act.put, List.getElem_toArray, List.getElem_cons_zero, List.getElem_cons_succ, List.setIfInBounds_toArray, List.set_cons_zero, List.set_cons_succ]
        refine wpAnyH_off (i := 13) (LN := #[true, true, true, true, true, true, true, true, true, true, true, true, true, true, false, false, false, false]) rfl (by kernel_rfl) (by kernel_rfl) (by kernel_rfl) (fun _ _ _ h => h) (by kernel_rfl) (by rfl) (by assumption) ?_
        try simp only [Act.put, List.getElem_toArray, List.getElem_cons_zero, List.getElem_cons_succ, List.setIfInBounds_toArray, List.set_cons_zero, List.set_cons_succ]
        refine wpAnyH_off (i := 14) (LN := #[true, true, true, true, true, true, true, true, true, true, true, true, true, true, true, false, false, false]) rfl (by kernel_rfl) (by kernel_rfl) (by kernel_rfl) (fun _ _ _ h => h) (by kernel_rfl) (by rfl) (by assumption) ?_
        try simp only [Act.put, List.getElem_toArray, List.getElem_cons_zero, List.getElem_cons_succ, List.setIfInBounds_toArray, List.set_cons_zero, List.set_cons_succ]
        refine wpAnyH_off (i := 15) (LN := #[true, true, true, true, true, true, true, true, true, true, true, true, true, true, true, true, false, false]) rfl (by kernel_rfl) (by kernel_rfl) (by kernel_rfl) (fun _ _ _ h => h) (by kernel_rfl) (by rfl) (by assumption) ?_
        try simp only [Act.put, List.getElem_toArray, List.getElem_cons_zero, List.getElem_cons_succ, List.setIfInBounds_toArray, List.set_cons_zero, List.set_cons_succ]
        refine wpAnyH_off (i := 16) (LN := #[true, true, true, true, true, true, true, true, true, true, true, true, true, true, true, true, true, false]) rfl (by kernel_rfl) (by kernel_rfl) (by kernel_rfl) (fun _ _ _ h => h) (by kernel_rfl) (by rfl) (by assumption) ?_
        try simp only [Act.put, List.getElem_toArray, List.getElem_cons_zero, List.getElem_cons_succ, List.setIfInBounds_toArray, List.set_cons_zero, List.set_cons_succ]
        refine wpAnyH_tk (i := 17) (v := ?_) (LN := #[true, true, true, true, true, true, true, true, true, true, true, true, true, true, true, true, true, true]) rfl (by kernel_rfl) (by kernel_rfl) (by kernel_rfl) (fun _ _ _ h => h) (by kernel_rfl) (by rfl) (by assumption) ?_ ?_
        rotate_left
        · intro w hSw; (try dsimp only at hSw); first | (go_simp; done) | (go_simp; with_reducible rfl)
        try simp only [Act.put, List.getElem_toArray, List.getElem_cons_zero, List.getElem_cons_succ, List.setIfInBounds_toArray, List.set_cons_zero, List.set_cons_succ]
        refine ⟨by kernel_rfl, ?_⟩
        try simp only [Act.put, List.getElem_toArray, List.getElem_cons_zero, List.getElem_cons_succ, List.setIfInBounds_toArray, List.set_cons_zero, List.set_cons_succ]
        go_upto_block 1 with fail
        clear hHeld hov
      all_goals
        clear HB
        go_loopg [] (n2 - m2) (fun kk wr => ∃ (r3 : SR) (m3 : Nat), Hid (SInv code cap fuel seed q r3 ring2 lo2 hi2 u2 n2 m3 d) ∧ r3.Ok ∧ Hid (r3.st = r2.st ∧ r3.wr = r2.wr ∧ r3.me = r2.me ∧ m2 ≤ m3 ∧ (m3 ≤ m2 ∨ m3 ≤ q.both)) ∧ Sat W0 wr (RA g r3 q ring2 lo2 hi2 u2 code ++ L) ∧ Hid (kk = n2 - m3))
        case atStart => exact ⟨r2, m2, HJ, hr2, ⟨rfl, rfl, rfl, Nat.le_refl _, .inl (Nat.le_refl _)⟩, S4, rfl⟩
        case round =>
          clear S4 hnd
          obtain ⟨r3, m3, HK, hr3, HY, S5, HM⟩ := hrel
          have S6 : Sat W0 wr (blk g (rv r3) 74 :: Qu r3.qp q :: RG r3.rp ring2 lo2 hi2 :: sps r3.ua r3.un r3.uc u2 :: sis r3.ca r3.cn r3.cc code :: L) := S5
          have hmn := HK.out.mn
          have hnd := HK.out.nd
          obtain ⟨mb, hmb⟩ : ∃ mb : Nat, min q.both n2 = mb := ⟨_, rfl⟩
          have hmi : (if (n2 : Int) < (q.both : Int) then (n2 : Int) else (q.both : Int)) = (mb : Int) := by split <;> omega
          have hmi2 : (if n2 < q.both then (n2 : Int) else (q.both : Int)) = (mb : Int) := by split <;> omega
          have HMB := Lib.hid hmb
          clear hmb
          have HC : Hid (∀ w', RAt w' g r3 → w'.cell? ⟨g, 28, none⟩ = some (.int .i64 m3) ∧ w'.cell? ⟨g, 8, none⟩ = some (.int .i64 n2)) := by
            intro w' h
            have a := h.sf
            have b := h.nf
            rw [HK.out.sure, HK.out.sfr] at a
            rw [HK.out.now, HK.out.fr] at b
            exact ⟨a, b⟩
          cases hov : r3.sure.over
          · by_cases hlt : m3 < mb
            · have hd1 : decide ((m3 : Int) < (mb : Int)) = true := decide_eq_true (by omega)
              have hd2 : decide (m3 < mb) = true := decide_eq_true hlt
              have hw : IntKind.i64.wrap ((m3 : Int) + 1) = ((m3 + 1 : Nat) : Int) := by rw [IntKind.wrap_i64]; omega
              have HSU := Lib.hid (HK.out.surer hk hs hqb (by have := HMB.out; omega))
              go_upto_region 3 with fail
              refine wp_region_drawn (N := 25) (LN := #[false, false, false, false, false, false, false, false, false, false, false, false, false, false, false, false, false, false, false, false, false, false, false, false, false]) (by kernel_rfl) (by kernel_rfl) (by kernel_rfl) ?_
              have S7 := S6.drew
              generalize wr.drew = w7 at S7 ⊢
              clear S6 S5
              refine wpAny_held (fun w' => w'.cell? ⟨g, 46, none⟩ = some (.bool false) ∧ w'.cell? ⟨g, 28, none⟩ = some (.int .i64 m3) ∧ w'.cell? ⟨g, 4, none⟩ = some (.pointer (some ⟨r3.qp, 0, none⟩)) ∧ w'.cell? ⟨g, 8, none⟩ = some (.int .i64 n2)) ⟨by rw [(r_at hr3 S7).so, hov], (HC.out _ (r_at hr3 S7)).1, (r_at hr3 S7).qp, (HC.out _ (r_at hr3 S7)).2⟩ (fun hHeld => ?_)
              refine wpAnyH_tk (i := 0) (v := ?_) (LN := #[true, false, false, false, false, false, false, false, false, false, false, false, false, false, false, false, false, false, false, false, false, false, false, false, false]) rfl (by kernel_rfl) (by kernel_rfl) (by kernel_rfl) (fun _ _ _ h => h) (by kernel_rfl) (by rfl) (by assumption) ?_ ?_
              rotate_left
              · intro w hSw; (try dsimp only at hSw); first | (go_simp; done) | (go_simp; with_reducible rfl)
              try simp only [Act.put, List.getElem_toArray, List.getElem_cons_zero, List.getElem_cons_succ, List.setIfInBounds_toArray, List.set_cons_zero, List.set_cons_succ]
              refine wpAnyH_tk (i := 1) (v := ?_) (LN := #[true, true, false, false, false, false, false, false, false, false, false, false, false, false, false, false, false, false, false, false, false, false, false, false, false]) rfl (by kernel_rfl) (by kernel_rfl) (by kernel_rfl) (fun _ _ _ h => h) (by kernel_rfl) (by rfl) (by assumption) ?_ ?_
              rotate_left
              · intro w hSw; (try dsimp only at hSw); first | (go_simp; done) | (go_simp; with_reducible rfl)
              try simp only [Act.put, List.getElem_toArray, List.getElem_cons_zero, List.getElem_cons_succ, List.setIfInBounds_toArray, List.set_cons_zero, List.set_cons_succ]
              refine wpAnyH_tk (i := 2) (v := ?_) (LN := #[true, true, true, false, false, false, false, false, false, false, false, false, false, false, false, false, false, false, false, false, false, false, false, false, false]) rfl (by kernel_rfl) (by kernel_rfl) (by kernel_rfl) (fun _ _ _ h => h) (by kernel_rfl) (by rfl) (by assumption) ?_ ?_
              rotate_left
              · intro w hSw; (try dsimp only at hSw); first | (go_simp; done) | (go_simp; with_reducible rfl)
              try simp only [Act.put, List.getElem_toArray, List.getElem_cons_zero, List.getElem_cons_succ, List.setIfInBounds_toArray, List.set_cons_zero, List.set_cons_succ]
              refine wpAnyH_tk (i := 3) (v := ?_) (LN := #[true, true, true, true, false, false, false, false, false, false, false, false, false, false, false, false, false, false, false, false, false, false, false, false, false]) rfl (by kernel_rfl) (by kernel_rfl) (by kernel_rfl) (fun _ _ _ h => h) (by kernel_rfl) (by rfl) (by assumption) ?_ ?_
              rotate_left
              · intro w hSw; (try dsimp only at hSw); first | (go_simp; done) | (go_simp; with_reducible rfl)
              try simp only [Act.put, List.getElem_toArray, List.getElem_cons_zero, List.getElem_cons_succ, List.setIfInBounds_toArray, List.set_cons_zero, List.set_cons_succ]
              refine wpAnyH_tk (i := 4) (v := ?_) (LN := #[true, true, true, true, true, false, false, false, false, false, false, false, false, false, false, false, false, false, false, false, false, false, false, false, false]) rfl (by kernel_rfl) (by kernel_rfl) (by kernel_rfl) (fun _ _ _ h => h) (by kernel_rfl) (by rfl) (by assumption) ?_ ?_
              rotate_left
              · intro w hSw; (try dsimp only at hSw); first | (go_simp; done) | (go_simp; with_reducible rfl)
              try simp only [Act.put, List.getElem_toArray, List.getElem_cons_zero, List.getElem_cons_succ, List.setIfInBounds_toArray, List.set_cons_zero, List.set_cons_succ]
              refine wpAnyH_tk (i := 5) (v := ?_) (LN := #[true, true, true, true, true, true, false, false, false, false, false, false, false, false, false, false, false, false, false, false, false, false, false, false, false]) rfl (by kernel_rfl) (by kernel_rfl) (by kernel_rfl) (fun _ _ _ h => h) (by kernel_rfl) (by rfl) (by assumption) ?_ ?_
              rotate_left
              · intro w hSw; (try dsimp only at hSw); first | (go_simp; done) | (go_simp; with_reducible rfl)
              try simp only [Act.put, List.getElem_toArray, List.getElem_cons_zero, List.getElem_cons_succ, List.setIfInBounds_toArray, List.set_cons_zero, List.set_cons_succ]
              refine wpAnyH_tk (i := 6) (v := ?_) (LN := #[true, true, true, true, true, true, true, false, false, false, false, false, false, false, false, false, false, false, false, false, false, false, false, false, false]) rfl (by kernel_rfl) (by kernel_rfl) (by kernel_rfl) (fun _ _ _ h => h) (by kernel_rfl) (by rfl) (by assumption) ?_ ?_
              rotate_left
              · intro w hSw; (try dsimp only at hSw); first | (go_simp; done) | (go_simp; with_reducible rfl)
              try simp only [Act.put, List.getElem_toArray, List.getElem_cons_zero, List.getElem_cons_succ, List.setIfInBounds_toArray, List.set_cons_zero, List.set_cons_succ]
              refine wpAnyH_tk (i := 7) (v := ?_) (LN := #[true, true, true, true, true, true, true, true, false, false, false, false, false, false, false, false, false, false, false, false, false, false, false, false, false]) rfl (by kernel_rfl) (by kernel_rfl) (by kernel_rfl) (fun _ _ _ h => h) (by kernel_rfl) (by rfl) (by assumption) ?_ ?_
              rotate_left
              · intro w hSw; (try dsimp only at hSw); first | (go_simp; done) | (go_simp; with_reducible rfl)
              try simp only [Act.put, List.getElem_toArray, List.getElem_cons_zero, List.getElem_cons_succ, List.setIfInBounds_toArray, List.set_cons_zero, List.set_cons_succ]
              refine wpAnyH_tk (i := 8) (v := ?_) (LN := #[true, true, true, true, true, true, true, true, true, false, false, false, false, false, false, false, false, false, false, false, false, false, false, false, false]) rfl (by kernel_rfl) (by kernel_rfl) (by kernel_rfl) (fun _ _ _ h => h) (by kernel_rfl) (by rfl) (by assumption) ?_ ?_
              rotate_left
              · intro w hSw; (try dsimp only at hSw); first | (go_simp; done) | (go_simp; with_reducible rfl)
              try simp only [Act.put, List.getElem_toArray, List.getElem_cons_zero, List.getElem_cons_succ, List.setIfInBounds_toArray, List.set_cons_zero, List.set_cons_succ]
              refine wpAnyH_tk (i := 9) (v := ?_) (LN := #[true, true, true, true, true, true, true, true, true, true, false, false, false, false, false, false, false, false, false, false, false, false, false, false, false]) rfl (by kernel_rfl) (by kernel_rfl) (by kernel_rfl) (fun _ _ _ h => h) (by kernel_rfl) (by rfl) (by assumption) ?_ ?_
              rotate_left
              · intro w hSw; (try dsimp only at hSw); first | (go_simp; done) | (go_simp; with_reducible rfl)
              try simp only [Act.put, List.getElem_toArray, List.getElem_cons_zero, List.getElem_cons_succ, List.setIfInBounds_toArray, List.set_cons_zero, List.set_cons_succ]
              refine wpAnyH_tk (i := 10) (v := ?_) (LN := #[true, true, true, true, true, true, true, true, true, true, true, false, false, false, false, false, false, false, false, false, false, false, false, false, false]) rfl (by kernel_rfl) (by kernel_rfl) (by kernel_rfl) (fun _ _ _ h => h) (by kernel_rfl) (by rfl) (by assumption) ?_ ?_
              rotate_left
              · intro w hSw; (try dsimp only at hSw); first | (go_simp; done) | (go_simp; with_reducible rfl)
              try simp only [Act.put, List.getElem_toArray, List.getElem_cons_zero, List.getElem_cons_succ, List.setIfInBounds_toArray, List.set_cons_zero, List.set_cons_succ]
              refine wpAnyH_tk (i := 11) (v := ?_) (LN := #[true, true, true, true, true, true, true, true, true, true, true, true, false, false, false, false, false, false, false, false, false, false, false, false, false]) rfl (by kernel_rfl) (by kernel_rfl) (by kernel_rfl) (fun _ _ _ h => h) (by kernel_rfl) (by rfl) (by assumption) ?_ ?_
              rotate_left
              · intro w hSw; (try dsimp only at hSw); first | (go_simp; done) | (go_simp; with_reducible rfl)
              try simp only [Act.put, List.getElem_toArray, List.getElem_cons_zero, List.getElem_cons_succ, List.setIfInBounds_toArray, List.set_cons_zero, List.set_cons_succ]
              refine wpAnyH_tk (i := 12) (v := ?_) (LN := #[true, true, true, true, true, true, true, true, true, true, true, true, true, false, false, false, false, false, false, false, false, false, false, false, false]) rfl (by kernel_rfl) (by kernel_rfl) (by kernel_rfl) (fun _ _ _ h => h) (by kernel_rfl) (by rfl) (by assumption) ?_ ?_
              rotate_left
              · intro w hSw; (try dsimp only at hSw); first | (go_simp; done) | (go_simp; with_reducible rfl)
              try simp only [Act.put, List.getElem_toArray, List.getElem_cons_zero, List.getElem_cons_succ, List.setIfInBounds_toArray, List.set_cons_zero, List.set_cons_succ]
              refine wpAnyH_tk (i := 13) (v := ?_) (LN := #[true, true, true, true, true, true, true, true, true, true, true, true, true, true, false, false, false, false, false, false, false, false, false, false, false]) rfl (by kernel_rfl) (by kernel_rfl) (by kernel_rfl) (fun _ _ _ h => h) (by kernel_rfl) (by rfl) (by assumption) ?_ ?_
              rotate_left
              · intro w hSw; (try dsimp only at hSw); first | (go_simp; done) | (go_simp; with_reducible rfl)
              try simp only [Act.put, List.getElem_toArray, List.getElem_cons_zero, List.getElem_cons_succ, List.setIfInBounds_toArray, List.set_cons_zero, List.set_cons_succ]
              refine wpAnyH_tk (i := 14) (v := ?_) (LN := #[true, true, true, true, true, true, true, true, true, true, true, true, true, true, true, false, false, false, false, false, false, false, false, false, false]) rfl (by kernel_rfl) (by kernel_rfl) (by kernel_rfl) (fun _ _ _ h => h) (by kernel_rfl) (by rfl) (by assumption) ?_ ?_
              rotate_left
              · intro w hSw; (try dsimp only at hSw); first | (go_simp; done) | (go_simp; with_reducible rfl)
              try simp only [Act.put, List.getElem_toArray, List.getElem_cons_zero, List.getElem_cons_succ, List.setIfInBounds_toArray, List.set_cons_zero, List.set_cons_succ]
              refine wpAnyH_tk (i := 15) (v := ?_) (LN := #[true, true, true, true, true, true, true, true, true, true, true, true, true, true, true, true, false, false, false, false, false, false, false, false, false]) rfl (by kernel_rfl) (by kernel_rfl) (by kernel_rfl) (fun _ _ _ h => h) (by kernel_rfl) (by rfl) (by assumption) ?_ ?_
              rotate_left
              · intro w hSw; (try dsimp only at hSw); first | (go_simp; done) | (go_simp; with_reducible rfl)
              try simp only [Act.put, List.getElem_toArray, List.getElem_cons_zero, List.getElem_cons_succ, List.setIfInBounds_toArray, List.set_cons_zero, List.set_cons_succ]
              refine wpAnyH_tk (i := 17) (v := ?_) (LN := #[true, true, true, true, true, true, true, true, true, true, true, true, true, true, true, true, false, true, false, false, false, false, false, false, false]) rfl (by kernel_rfl) (by kernel_rfl) (by kernel_rfl) (fun _ _ _ h => h) (by kernel_rfl) (by rfl) (by assumption) ?_ ?_
              rotate_left
              · intro w hSw; (try dsimp only at hSw); first | (go_simp; done) | (go_simp; with_reducible rfl)
              try simp only [Act.put, List.getElem_toArray, List.getElem_cons_zero, List.getElem_cons_succ, List.setIfInBounds_toArray, List.set_cons_zero, List.set_cons_succ]
              refine wpAnyH_tk (i := 18) (v := ?_) (LN := #[true, true, true, true, true, true, true, true, true, true, true, true, true, true, true, true, false, true, true, false, false, false, false, false, false]) rfl (by kernel_rfl) (by kernel_rfl) (by kernel_rfl) (fun _ _ _ h => h) (by kernel_rfl) (by rfl) (by assumption) ?_ ?_
              rotate_left
              · intro w hSw; (try dsimp only at hSw); first | (go_simp; done) | (go_simp; with_reducible rfl)
              try simp only [Act.put, List.getElem_toArray, List.getElem_cons_zero, List.getElem_cons_succ, List.setIfInBounds_toArray, List.set_cons_zero, List.set_cons_succ]
              refine wpAnyH_tk (i := 19) (v := ?_) (LN := #[true, true, true, true, true, true, true, true, true, true, true, true, true, true, true, true, false, true, true, true, false, false, false, false, false]) rfl (by kernel_rfl) (by kernel_rfl) (by kernel_rfl) (fun _ _ _ h => h) (by kernel_rfl) (by rfl) (by assumption) ?_ ?_
              rotate_left
              · intro w hSw; (try dsimp only at hSw); first | (go_simp; done) | (go_simp; with_reducible rfl)
              try simp only [Act.put, List.getElem_toArray, List.getElem_cons_zero, List.getElem_cons_succ, List.setIfInBounds_toArray, List.set_cons_zero, List.set_cons_succ]
              refine wpAnyH_tk (i := 20) (v := ?_) (LN := #[true, true, true, true, true, true, true, true, true, true, true, true, true, true, true, true, false, true, true, true, true, false, false, false, false]) rfl (by kernel_rfl) (by kernel_rfl) (by kernel_rfl) (fun _ _ _ h => h) (by kernel_rfl) (by rfl) (by assumption) ?_ ?_
              rotate_left
              · intro w hSw; (try dsimp only at hSw); first | (go_simp; done) | (go_simp; with_reducible rfl)
              try simp only [Act.put, List.getElem_toArray, List.getElem_cons_zero, List.getElem_cons_succ, List.setIfInBounds_toArray, List.set_cons_zero, List.set_cons_succ]
              refine wpAnyH_tk (i := 21) (v := ?_) (LN := #[true, true, true, true, true, true, true, true, true, true, true, true, true, true, true, true, false, true, true, true, true, true, false, false, false]) rfl (by kernel_rfl) (by kernel_rfl) (by kernel_rfl) (fun _ _ _ h => h) (by kernel_rfl) (by rfl) (by assumption) ?_ ?_
              rotate_left
              · intro w hSw; (try dsimp only at hSw); first | (go_simp; done) | (go_simp; with_reducible rfl)
              try simp only [Act.put, List.getElem_toArray, List.getElem_cons_zero, List.getElem_cons_succ, List.setIfInBounds_toArray, List.set_cons_zero, List.set_cons_succ]
              refine wpAnyH_one (i := 16) (LN := #[true, true, true, true, true, true, true, true, true, true, true, true, true, true, true, true, true, true, true, true, true, true, false, false, false]) (by kernel_rfl) rfl (by kernel_rfl) ?_
              intro K hK
              go_simp
              go_at_call 49
              refine (qboth_any (S7.sel [1])).mono ?_
              rintro e w8 ⟨rfl, rfl⟩
              go_wp2_with fail
              refine hK.out _ _ ⟨by rw [(r_at hr3 S7).so, hov], (HC.out _ (r_at hr3 S7)).1, (r_at hr3 S7).qp, (HC.out _ (r_at hr3 S7)).2⟩ ?_
              clear hK K hHeld
              intro hHeld
              try simp only [Act.put, List.getElem_toArray, List.getElem_cons_zero, List.getElem_cons_succ, List.setIfInBounds_toArray, List.set_cons_zero, List.set_cons_succ]
              refine wpAnyH_tk (i := 22) (v := ?_) (LN := #[true, true, true, true, true, true, true, true, true, true, true, true, true, true, true, true, true, true, true, true, true, true, true, false, false]) rfl (by kernel_rfl) (by kernel_rfl) (by kernel_rfl) (fun _ _ _ h => h) (by kernel_rfl) (by rfl) (by assumption) ?_ ?_
              rotate_left
              · intro w hSw; (try dsimp only at hSw); first | (go_simp; done) | (go_simp; with_reducible rfl)
              try simp only [Act.put, List.getElem_toArray, List.getElem_cons_zero, List.getElem_cons_succ, List.setIfInBounds_toArray, List.set_cons_zero, List.set_cons_succ]
              refine wpAnyH_tk (i := 23) (v := ?_) (LN := #[true, true, true, true, true, true, true, true, true, true, true, true, true, true, true, true, true, true, true, true, true, true, true, true, false]) rfl (by kernel_rfl) (by kernel_rfl) (by kernel_rfl) (fun _ _ _ h => h) (by kernel_rfl) (by rfl) (by assumption) ?_ ?_
              rotate_left
              · intro w hSw; (try dsimp only at hSw); first | (go_simp; done) | (go_simp; with_reducible rfl)
              try simp only [Act.put, List.getElem_toArray, List.getElem_cons_zero, List.getElem_cons_succ, List.setIfInBounds_toArray, List.set_cons_zero, List.set_cons_succ]
              refine wpAnyH_tk (i := 24) (v := ?_) (LN := #[true, true, true, true, true, true, true, true, true, true, true, true, true, true, true, true, true, true, true, true, true, true, true, true, true]) rfl (by kernel_rfl) (by kernel_rfl) (by kernel_rfl) (fun _ _ _ h => h) (by kernel_rfl) (by rfl) (by assumption) ?_ ?_
              rotate_left
              · intro w hSw; (try dsimp only at hSw); first | (go_simp; done) | (go_simp; with_reducible rfl)
              try simp only [Act.put, List.getElem_toArray, List.getElem_cons_zero, List.getElem_cons_succ, List.setIfInBounds_toArray, List.set_cons_zero, List.set_cons_succ]
              refine ⟨by kernel_rfl, ?_⟩
              try simp only [Act.put, List.getElem_toArray, List.getElem_cons_zero, List.getElem_cons_succ, List.setIfInBounds_toArray, List.set_cons_zero, List.set_cons_succ]
              clear hHeld hd1 hd2 hmi hmi2
              have hTL := svals_length HSU.out.2.1.len
              go_upto_region 4 with fail
              refine wp_region_drawn (N := 18) (LN := #[false, false, false, false, false, false, false, false, false, false, false, false, false, false, false, false, false, false]) (by kernel_rfl) (by kernel_rfl) (by kernel_rfl) ?_
              have S8 := S7.drew
              generalize w7.drew = w8 at S8 ⊢
              clear S7
              have hA := r_at hr3 S8
              have c5 := hA.rp
              have c28 := (HC.out _ hA).1
              clear hA
              refine wpAny_loc (i := 0) (v := ?_) (LN := #[true, false, false, false, false, false, false, false, false, false, false, false, false, false, false, false, false, false]) rfl (by kernel_rfl) (by kernel_rfl) (by kernel_rfl) (fun _ _ _ h => h) (by kernel_rfl) (by rfl) ?_ ?_
              rotate_left
              · intro w; first | (go_simp; done) | (go_simp; with_reducible rfl)
              try simp only [Act.put, List.getElem_toArray, List.getElem_cons_zero, List.getElem_cons_succ, List.setIfInBounds_toArray, List.set_cons_zero, List.set_cons_succ]
              refine wpAny_segD 1 11 7 17 #[true, true, true, true, true, true, true, true, true, true, true, false, false, false, false, false, false, false] (by kernel_rfl) (by kernel_rfl) ?_
              simp only [List.take_succ_cons, List.take_zero, List.drop_succ_cons, List.drop_zero]
              refine wpStill_step (fun K hK => ?_); go_simp; refine hK _ ?_; clear hK K
              try simp only [Act.put, List.getElem_toArray, List.getElem_cons_zero, List.getElem_cons_succ, List.setIfInBounds_toArray, List.set_cons_zero, List.set_cons_succ]
              refine wpStill_step (fun K hK => ?_); go_simp; refine hK _ ?_; clear hK K
              try simp only [Act.put, List.getElem_toArray, List.getElem_cons_zero, List.getElem_cons_succ, List.setIfInBounds_toArray, List.set_cons_zero, List.set_cons_succ]
              refine wpStill_step (fun K hK => ?_); go_simp; refine hK _ ?_; clear hK K
              try simp only [Act.put, List.getElem_toArray, List.getElem_cons_zero, List.getElem_cons_succ, List.setIfInBounds_toArray, List.set_cons_zero, List.set_cons_succ]
              refine wpStill_step (fun K hK => ?_); go_simp; refine hK _ ?_; clear hK K
              try simp only [Act.put, List.getElem_toArray, List.getElem_cons_zero, List.getElem_cons_succ, List.setIfInBounds_toArray, List.set_cons_zero, List.set_cons_succ]
              refine wpStill_step (fun K hK => ?_); go_simp; refine hK _ ?_; clear hK K
              try simp only [Act.put, List.getElem_toArray, List.getElem_cons_zero, List.getElem_cons_succ, List.setIfInBounds_toArray, List.set_cons_zero, List.set_cons_succ]
              refine wpStill_step (fun K hK => ?_); go_simp; refine hK _ ?_; clear hK K
              try simp only [Act.put, List.getElem_toArray, List.getElem_cons_zero, List.getElem_cons_succ, List.setIfInBounds_toArray, List.set_cons_zero, List.set_cons_succ]
              refine wpStill_step (fun K hK => ?_); go_simp; refine hK _ ?_; clear hK K
              try simp only [Act.put, List.getElem_toArray, List.getElem_cons_zero, List.getElem_cons_succ, List.setIfInBounds_toArray, List.set_cons_zero, List.set_cons_succ]
              refine wpStill_step (fun K hK => ?_); go_simp; refine hK _ ?_; clear hK K
              try simp only [Act.put, List.getElem_toArray, List.getElem_cons_zero, List.getElem_cons_succ, List.setIfInBounds_toArray, List.set_cons_zero, List.set_cons_succ]
              refine wpStill_step (fun K hK => ?_); go_simp; refine hK _ ?_; clear hK K
              try simp only [Act.put, List.getElem_toArray, List.getElem_cons_zero, List.getElem_cons_succ, List.setIfInBounds_toArray, List.set_cons_zero, List.set_cons_succ]
              refine wpStill_step (fun K hK => ?_); go_simp; refine hK _ ?_; clear hK K
              try simp only [Act.put, List.getElem_toArray, List.getElem_cons_zero, List.getElem_cons_succ, List.setIfInBounds_toArray, List.set_cons_zero, List.set_cons_succ]
              refine wpStill_nil ?_
              refine wpAny_one (i := 11) (LN := #[true, true, true, true, true, true, true, true, true, true, true, true, false, false, false, false, false, false]) (by kernel_rfl) rfl (by kernel_rfl) ?_
              intro K hK
              go_simp
              go_at_call 50
              refine (ringGet_any (f := m3 + 1) (S8.sel [2]) HK.out.rl HK.out.ro (by have := HK.out.hlo; omega) (by have := HK.out.hhi; have := HMB.out; omega) HSU.out.1).mono ?_
              rintro e w9 ⟨rfl, S9⟩
              go_wp2_with fail
              refine hK.out _ _ ?_
              clear hK K
              try simp only [Act.put, List.getElem_toArray, List.getElem_cons_zero, List.getElem_cons_succ, List.setIfInBounds_toArray, List.set_cons_zero, List.set_cons_succ]
              refine wpAny_loc (i := 12) (v := ?_) (LN := #[true, true, true, true, true, true, true, true, true, true, true, true, true, false, false, false, false, false]) rfl (by kernel_rfl) (by kernel_rfl) (by kernel_rfl) (fun _ _ _ h => h) (by kernel_rfl) (by rfl) ?_ ?_
              rotate_left
              · intro w; first | (go_simp; done) | (go_simp; with_reducible rfl)
              try simp only [Act.put, List.getElem_toArray, List.getElem_cons_zero, List.getElem_cons_succ, List.setIfInBounds_toArray, List.set_cons_zero, List.set_cons_succ]
              refine wpAny_loc (i := 13) (v := ?_) (LN := #[true, true, true, true, true, true, true, true, true, true, true, true, true, true, false, false, false, false]) rfl (by kernel_rfl) (by kernel_rfl) (by kernel_rfl) (fun _ _ _ h => h) (by kernel_rfl) (by rfl) ?_ ?_
              rotate_left
              · intro w; first | (go_simp; done) | (go_simp; with_reducible rfl)
              try simp only [Act.put, List.getElem_toArray, List.getElem_cons_zero, List.getElem_cons_succ, List.setIfInBounds_toArray, List.set_cons_zero, List.set_cons_succ]
              refine wpAny_loc (i := 14) (v := ?_) (LN := #[true, true, true, true, true, true, true, true, true, true, true, true, true, true, true, false, false, false]) rfl (by kernel_rfl) (by kernel_rfl) (by kernel_rfl) (fun _ _ _ h => h) (by kernel_rfl) (by rfl) ?_ ?_
              rotate_left
              · intro w; first | (go_simp; done) | (go_simp; with_reducible rfl)
              try simp only [Act.put, List.getElem_toArray, List.getElem_cons_zero, List.getElem_cons_succ, List.setIfInBounds_toArray, List.set_cons_zero, List.set_cons_succ]
              refine wpAny_loc (i := 15) (v := ?_) (LN := #[true, true, true, true, true, true, true, true, true, true, true, true, true, true, true, true, false, false]) rfl (by kernel_rfl) (by kernel_rfl) (by kernel_rfl) (fun _ _ _ h => h) (by kernel_rfl) (by rfl) ?_ ?_
              rotate_left
              · intro w; first | (go_simp; done) | (go_simp; with_reducible rfl)
              try simp only [Act.put, List.getElem_toArray, List.getElem_cons_zero, List.getElem_cons_succ, List.setIfInBounds_toArray, List.set_cons_zero, List.set_cons_succ]
              refine wpAny_loc (i := 16) (v := ?_) (LN := #[true, true, true, true, true, true, true, true, true, true, true, true, true, true, true, true, true, false]) rfl (by kernel_rfl) (by kernel_rfl) (by kernel_rfl) (fun _ _ _ h => h) (by kernel_rfl) (by rfl) ?_ ?_
              rotate_left
              · intro w; first | (go_simp; done) | (go_simp; with_reducible rfl)
              try simp only [Act.put, List.getElem_toArray, List.getElem_cons_zero, List.getElem_cons_succ, List.setIfInBounds_toArray, List.set_cons_zero, List.set_cons_succ]
              refine wpAny_one (i := 17) (LN := #[true, true, true, true, true, true, true, true, true, true, true, true, true, true, true, true, true, true]) (by kernel_rfl) rfl (by kernel_rfl) ?_
              intro K hK
              refine step_store_sat (off := 28) (n := 20) rfl 46 _ _ rfl (S9.sel [1]) rfl rfl hTL (by rw [rv_length hr3]; omega) Tryz.sizeS (svals_one _) ?_
              intro w10 S10
              rw [rv_setSure hr3] at S10
              refine hK.out _ _ ?_
              clear hK K
              try simp only [Act.put, List.getElem_toArray, List.getElem_cons_zero, List.getElem_cons_succ, List.setIfInBounds_toArray, List.set_cons_zero, List.set_cons_succ]
              refine ⟨by kernel_rfl, ?_⟩
              try simp only [Act.put, List.getElem_toArray, List.getElem_cons_zero, List.getElem_cons_succ, List.setIfInBounds_toArray, List.set_cons_zero, List.set_cons_succ]
              clear c5 c28 S8 S9
              go_wp2_with fail
              go_roundg (n2 - (m3 + 1))
              case measure => have := HM.out; have := HMB.out; omega
              case rel => exact ⟨_, m3 + 1, HSU.out.2.2.2, ⟨hr3.now, HSU.out.2.1⟩, ⟨HY.out.1, HY.out.2.1, HY.out.2.2.1, by have := HY.out.2.2.2.1; omega, .inr (by have := HMB.out; omega)⟩, S10.sel [0, 1, 0], rfl⟩
            · have hd1 : decide ((m3 : Int) < (mb : Int)) = false := decide_eq_false (by omega)
              have hd2 : decide (m3 < mb) = false := decide_eq_false hlt
              go_upto_region 3 with fail
              refine wp_region_drawn (N := 25) (LN := #[false, false, false, false, false, false, false, false, false, false, false, false, false, false, false, false, false, false, false, false, false, false, false, false, false]) (by kernel_rfl) (by kernel_rfl) (by kernel_rfl) ?_
              have S7 := S6.drew
              generalize wr.drew = w7 at S7 ⊢
              clear S6 S5
              refine wpAny_held (fun w' => w'.cell? ⟨g, 46, none⟩ = some (.bool false) ∧ w'.cell? ⟨g, 28, none⟩ = some (.int .i64 m3) ∧ w'.cell? ⟨g, 4, none⟩ = some (.pointer (some ⟨r3.qp, 0, none⟩)) ∧ w'.cell? ⟨g, 8, none⟩ = some (.int .i64 n2)) ⟨by rw [(r_at hr3 S7).so, hov], (HC.out _ (r_at hr3 S7)).1, (r_at hr3 S7).qp, (HC.out _ (r_at hr3 S7)).2⟩ (fun hHeld => ?_)
              refine wpAnyH_tk (i := 0) (v := ?_) (LN := #[true, false, false, false, false, false, false, false, false, false, false, false, false, false, false, false, false, false, false, false, false, false, false, false, false]) rfl (by kernel_rfl) (by kernel_rfl) (by kernel_rfl) (fun _ _ _ h => h) (by kernel_rfl) (by rfl) (by assumption) ?_ ?_
              rotate_left
              · intro w hSw; (try dsimp only at hSw); first | (go_simp; done) | (go_simp; with_reducible rfl)
              try simp only [Act.put, List.getElem_toArray, List.getElem_cons_zero, List.getElem_cons_succ, List.setIfInBounds_toArray, List.set_cons_zero, List.set_cons_succ]
              refine wpAnyH_tk (i := 1) (v := ?_) (LN := #[true, true, false, false, false, false, false, false, false, false, false, false, false, false, false, false, false, false, false, false, false, false, false, false, false]) rfl (by kernel_rfl) (by kernel_rfl) (by kernel_rfl) (fun _ _ _ h => h) (by kernel_rfl) (by rfl) (by assumption) ?_ ?_
              rotate_left
              · intro w hSw; (try dsimp only at hSw); first | (go_simp; done) | (go_simp; with_reducible rfl)
              try simp only [Act.put, List.getElem_toArray, List.getElem_cons_zero, List.getElem_cons_succ, List.setIfInBounds_toArray, List.set_cons_zero, List.set_cons_succ]
              refine wpAnyH_tk (i := 2) (v := ?_) (LN := #[true, true, true, false, false, false, false, false, false, false, false, false, false, false, false, false, false, false, false, false, false, false, false, false, false]) rfl (by kernel_rfl) (by kernel_rfl) (by kernel_rfl) (fun _ _ _ h => h) (by kernel_rfl) (by rfl) (by assumption) ?_ ?_
              rotate_left
              · intro w hSw; (try dsimp only at hSw); first | (go_simp; done) | (go_simp; with_reducible rfl)
              try simp only [Act.put, List.getElem_toArray, List.getElem_cons_zero, List.getElem_cons_succ, List.setIfInBounds_toArray, List.set_cons_zero, List.set_cons_succ]
              refine wpAnyH_tk (i := 3) (v := ?_) (LN := #[true, true, true, true, false, false, false, false, false, false, false, false, false, false, false, false, false, false, false, false, false, false, false, false, false]) rfl (by kernel_rfl) (by kernel_rfl) (by kernel_rfl) (fun _ _ _ h => h) (by kernel_rfl) (by rfl) (by assumption) ?_ ?_
              rotate_left
              · intro w hSw; (try dsimp only at hSw); first | (go_simp; done) | (go_simp; with_reducible rfl)
              try simp only [Act.put, List.getElem_toArray, List.getElem_cons_zero, List.getElem_cons_succ, List.setIfInBounds_toArray, List.set_cons_zero, List.set_cons_succ]
              refine wpAnyH_tk (i := 4) (v := ?_) (LN := #[true, true, true, true, true, false, false, false, false, false, false, false, false, false, false, false, false, false, false, false, false, false, false, false, false]) rfl (by kernel_rfl) (by kernel_rfl) (by kernel_rfl) (fun _ _ _ h => h) (by kernel_rfl) (by rfl) (by assumption) ?_ ?_
              rotate_left
              · intro w hSw; (try dsimp only at hSw); first | (go_simp; done) | (go_simp; with_reducible rfl)
              try simp only [Act.put, List.getElem_toArray, List.getElem_cons_zero, List.getElem_cons_succ, List.setIfInBounds_toArray, List.set_cons_zero, List.set_cons_succ]
              refine wpAnyH_tk (i := 5) (v := ?_) (LN := #[true, true, true, true, true, true, false, false, false, false, false, false, false, false, false, false, false, false, false, false, false, false, false, false, false]) rfl (by kernel_rfl) (by kernel_rfl) (by kernel_rfl) (fun _ _ _ h => h) (by kernel_rfl) (by rfl) (by assumption) ?_ ?_
              rotate_left
              · intro w hSw; (try dsimp only at hSw); first | (go_simp; done) | (go_simp; with_reducible rfl)
              try simp only [Act.put, List.getElem_toArray, List.getElem_cons_zero, List.getElem_cons_succ, List.setIfInBounds_toArray, List.set_cons_zero, List.set_cons_succ]
              refine wpAnyH_tk (i := 6) (v := ?_) (LN := #[true, true, true, true, true, true, true, false, false, false, false, false, false, false, false, false, false, false, false, false, false, false, false, false, false]) rfl (by kernel_rfl) (by kernel_rfl) (by kernel_rfl) (fun _ _ _ h => h) (by kernel_rfl) (by rfl) (by assumption) ?_ ?_
              rotate_left
              · intro w hSw; (try dsimp only at hSw); first | (go_simp; done) | (go_simp; with_reducible rfl)
              try simp only [Act.put, List.getElem_toArray, List.getElem_cons_zero, List.getElem_cons_succ, List.setIfInBounds_toArray, List.set_cons_zero, List.set_cons_succ]
              refine wpAnyH_tk (i := 7) (v := ?_) (LN := #[true, true, true, true, true, true, true, true, false, false, false, false, false, false, false, false, false, false, false, false, false, false, false, false, false]) rfl (by kernel_rfl) (by kernel_rfl) (by kernel_rfl) (fun _ _ _ h => h) (by kernel_rfl) (by rfl) (by assumption) ?_ ?_
              rotate_left
              · intro w hSw; (try dsimp only at hSw); first | (go_simp; done) | (go_simp; with_reducible rfl)
              try simp only [Act.put, List.getElem_toArray, List.getElem_cons_zero, List.getElem_cons_succ, List.setIfInBounds_toArray, List.set_cons_zero, List.set_cons_succ]
              refine wpAnyH_tk (i := 8) (v := ?_) (LN := #[true, true, true, true, true, true, true, true, true, false, false, false, false, false, false, false, false, false, false, false, false, false, false, false, false]) rfl (by kernel_rfl) (by kernel_rfl) (by kernel_rfl) (fun _ _ _ h => h) (by kernel_rfl) (by rfl) (by assumption) ?_ ?_
              rotate_left
              · intro w hSw; (try dsimp only at hSw); first | (go_simp; done) | (go_simp; with_reducible rfl)
              try simp only [Act.put, List.getElem_toArray, List.getElem_cons_zero, List.getElem_cons_succ, List.setIfInBounds_toArray, List.set_cons_zero, List.set_cons_succ]
              refine wpAnyH_tk (i := 9) (v := ?_) (LN := #[true, true, true, true, true, true, true, true, true, true, false, false, false, false, false, false, false, false, false, false, false, false, false, false, false]) rfl (by kernel_rfl) (by kernel_rfl) (by kernel_rfl) (fun _ _ _ h => h) (by kernel_rfl) (by rfl) (by assumption) ?_ ?_
              rotate_left
              · intro w hSw; (try dsimp only at hSw); first | (go_simp; done) | (go_simp; with_reducible rfl)
              try simp only [Act.put, List.getElem_toArray, List.getElem_cons_zero, List.getElem_cons_succ, List.setIfInBounds_toArray, List.set_cons_zero, List.set_cons_succ]
              refine wpAnyH_tk (i := 10) (v := ?_) (LN := #[true, true, true, true, true, true, true, true, true, true, true, false, false, false, false, false, false, false, false, false, false, false, false, false, false]) rfl (by kernel_rfl) (by kernel_rfl) (by kernel_rfl) (fun _ _ _ h => h) (by kernel_rfl) (by rfl) (by assumption) ?_ ?_
              rotate_left
              · intro w hSw; (try dsimp only at hSw); first | (go_simp; done) | (go_simp; with_reducible rfl)
              try simp only [Act.put, List.getElem_toArray, List.getElem_cons_zero, List.getElem_cons_succ, List.setIfInBounds_toArray, List.set_cons_zero, List.set_cons_succ]
              refine wpAnyH_tk (i := 11) (v := ?_) (LN := #[true, true, true, true, true, true, true, true, true, true, true, true, false, false, false, false, false, false, false, false, false, false, false, false, false]) rfl (by kernel_rfl) (by kernel_rfl) (by kernel_rfl) (fun _ _ _ h => h) (by kernel_rfl) (by rfl) (by assumption) ?_ ?_
              rotate_left
              · intro w hSw; (try dsimp only at hSw); first | (go_simp; done) | (go_simp; with_reducible rfl)
              try simp only [Act.put, List.getElem_toArray, List.getElem_cons_zero, List.getElem_cons_succ, List.setIfInBounds_toArray, List.set_cons_zero, List.set_cons_succ]
              refine wpAnyH_tk (i := 12) (v := ?_) (LN := #[true, true, true, true, true, true, true, true, true, true, true, true, true, false, false, false, false, false, false, false, false, false, false, false, false]) rfl (by kernel_rfl) (by kernel_rfl) (by kernel_rfl) (fun _ _ _ h => h) (by kernel_rfl) (by rfl) (by assumption) ?_ ?_
              rotate_left
              · intro w hSw; (try dsimp only at hSw); first | (go_simp; done) | (go_simp; with_reducible rfl)
              try simp only [Act.put, List.getElem_toArray, List.getElem_cons_zero, List.getElem_cons_succ, List.setIfInBounds_toArray, List.set_cons_zero, List.set_cons_succ]
              refine wpAnyH_tk (i := 13) (v := ?_) (LN := #[true, true, true, true, true, true, true, true, true, true, true, true, true, true, false, false, false, false, false, false, false, false, false, false, false]) rfl (by kernel_rfl) (by kernel_rfl) (by kernel_rfl) (fun _ _ _ h => h) (by kernel_rfl) (by rfl) (by assumption) ?_ ?_
              rotate_left
              · intro w hSw; (try dsimp only at hSw); first | (go_simp; done) | (go_simp; with_reducible rfl)
              try simp only [Act.put, List.getElem_toArray, List.getElem_cons_zero, List.getElem_cons_succ, List.setIfInBounds_toArray, List.set_cons_zero, List.set_cons_succ]
              refine wpAnyH_tk (i := 14) (v := ?_) (LN := #[true, true, true, true, true, true, true, true, true, true, true, true, true, true, true, false, false, false, false, false, false, false, false, false, false]) rfl (by kernel_rfl) (by kernel_rfl) (by kernel_rfl) (fun _ _ _ h => h) (by kernel_rfl) (by rfl) (by assumption) ?_ ?_
              rotate_left
              · intro w hSw; (try dsimp only at hSw); first | (go_simp; done) | (go_simp; with_reducible rfl)
              try simp only [Act.put, List.getElem_toArray, List.getElem_cons_zero, List.getElem_cons_succ, List.setIfInBounds_toArray, List.set_cons_zero, List.set_cons_succ]
              refine wpAnyH_tk (i := 15) (v := ?_) (LN := #[true, true, true, true, true, true, true, true, true, true, true, true, true, true, true, true, false, false, false, false, false, false, false, false, false]) rfl (by kernel_rfl) (by kernel_rfl) (by kernel_rfl) (fun _ _ _ h => h) (by kernel_rfl) (by rfl) (by assumption) ?_ ?_
              rotate_left
              · intro w hSw; (try dsimp only at hSw); first | (go_simp; done) | (go_simp; with_reducible rfl)
              try simp only [Act.put, List.getElem_toArray, List.getElem_cons_zero, List.getElem_cons_succ, List.setIfInBounds_toArray, List.set_cons_zero, List.set_cons_succ]
              refine wpAnyH_tk (i := 17) (v := ?_) (LN := #[true, true, true, true, true, true, true, true, true, true, true, true, true, true, true, true, false, true, false, false, false, false, false, false, false]) rfl (by kernel_rfl) (by kernel_rfl) (by kernel_rfl) (fun _ _ _ h => h) (by kernel_rfl) (by rfl) (by assumption) ?_ ?_
              rotate_left
              · intro w hSw; (try dsimp only at hSw); first | (go_simp; done) | (go_simp; with_reducible rfl)
              try simp only [Act.put, List.getElem_toArray, List.getElem_cons_zero, List.getElem_cons_succ, List.setIfInBounds_toArray, List.set_cons_zero, List.set_cons_succ]
              refine wpAnyH_tk (i := 18) (v := ?_) (LN := #[true, true, true, true, true, true, true, true, true, true, true, true, true, true, true, true, false, true, true, false, false, false, false, false, false]) rfl (by kernel_rfl) (by kernel_rfl) (by kernel_rfl) (fun _ _ _ h => h) (by kernel_rfl) (by rfl) (by assumption) ?_ ?_
              rotate_left
              · intro w hSw; (try dsimp only at hSw); first | (go_simp; done) | (go_simp; with_reducible rfl)
              try simp only [Act.put, List.getElem_toArray, List.getElem_cons_zero, List.getElem_cons_succ, List.setIfInBounds_toArray, List.set_cons_zero, List.set_cons_succ]
              refine wpAnyH_tk (i := 19) (v := ?_) (LN := #[true, true, true, true, true, true, true, true, true, true, true, true, true, true, true, true, false, true, true, true, false, false, false, false, false]) rfl (by kernel_rfl) (by kernel_rfl) (by kernel_rfl) (fun _ _ _ h => h) (by kernel_rfl) (by rfl) (by assumption) ?_ ?_
              rotate_left
              · intro w hSw; (try dsimp only at hSw); first | (go_simp; done) | (go_simp; with_reducible rfl)
              try simp only [Act.put, List.getElem_toArray, List.getElem_cons_zero, List.getElem_cons_succ, List.setIfInBounds_toArray, List.set_cons_zero, List.set_cons_succ]
              refine wpAnyH_tk (i := 20) (v := ?_) (LN := #[true, true, true, true, true, true, true, true, true, true, true, true, true, true, true, true, false, true, true, true, true, false, false, false, false]) rfl (by kernel_rfl) (by kernel_rfl) (by kernel_rfl) (fun _ _ _ h => h) (by kernel_rfl) (by rfl) (by assumption) ?_ ?_
              rotate_left
              · intro w hSw; (try dsimp only at hSw); first | (go_simp; done) | (go_simp; with_reducible rfl)
              try simp only [Act.put, List.getElem_toArray, List.getElem_cons_zero, List.getElem_cons_succ, List.setIfInBounds_toArray, List.set_cons_zero, List.set_cons_succ]
              refine wpAnyH_tk (i := 21) (v := ?_) (LN := #[true, true, true, true, true, true, true, true, true, true, true, true, true, true, true, true, false, true, true, true, true, true, false, false, false]) rfl (by kernel_rfl) (by kernel_rfl) (by kernel_rfl) (fun _ _ _ h => h) (by kernel_rfl) (by rfl) (by assumption) ?_ ?_
              rotate_left
              · intro w hSw; (try dsimp only at hSw); first | (go_simp; done) | (go_simp; with_reducible rfl)
              try simp only [Act.put, List.getElem_toArray, List.getElem_cons_zero, List.getElem_cons_succ, List.setIfInBounds_toArray, List.set_cons_zero, List.set_cons_succ]
              refine wpAnyH_one (i := 16) (LN := #[true, true, true, true, true, true, true, true, true, true, true, true, true, true, true, true, true, true, true, true, true, true, false, false, false]) (by kernel_rfl) rfl (by kernel_rfl) ?_
              intro K hK
              go_simp
              go_at_call 49
              refine (qboth_any (S7.sel [1])).mono ?_
              rintro e w8 ⟨rfl, rfl⟩
              go_wp2_with fail
              refine hK.out _ _ ⟨by rw [(r_at hr3 S7).so, hov], (HC.out _ (r_at hr3 S7)).1, (r_at hr3 S7).qp, (HC.out _ (r_at hr3 S7)).2⟩ ?_
              clear hK K hHeld
              intro hHeld
              try simp only [Act.put, List.getElem_toArray, List.getElem_cons_zero, List.getElem_cons_succ, List.setIfInBounds_toArray, List.set_cons_zero, List.set_cons_succ]
              refine wpAnyH_tk (i := 22) (v := ?_) (LN := #[true, true, true, true, true, true, true, true, true, true, true, true, true, true, true, true, true, true, true, true, true, true, true, false, false]) rfl (by kernel_rfl) (by kernel_rfl) (by kernel_rfl) (fun _ _ _ h => h) (by kernel_rfl) (by rfl) (by assumption) ?_ ?_
              rotate_left
              · intro w hSw; (try dsimp only at hSw); first | (go_simp; done) | (go_simp; with_reducible rfl)
              try simp only [Act.put, List.getElem_toArray, List.getElem_cons_zero, List.getElem_cons_succ, List.setIfInBounds_toArray, List.set_cons_zero, List.set_cons_succ]
              refine wpAnyH_tk (i := 23) (v := ?_) (LN := #[true, true, true, true, true, true, true, true, true, true, true, true, true, true, true, true, true, true, true, true, true, true, true, true, false]) rfl (by kernel_rfl) (by kernel_rfl) (by kernel_rfl) (fun _ _ _ h => h) (by kernel_rfl) (by rfl) (by assumption) ?_ ?_
              rotate_left
              · intro w hSw; (try dsimp only at hSw); first | (go_simp; done) | (go_simp; with_reducible rfl)
              try simp only [Act.put, List.getElem_toArray, List.getElem_cons_zero, List.getElem_cons_succ, List.setIfInBounds_toArray, List.set_cons_zero, List.set_cons_succ]
              refine wpAnyH_tk (i := 24) (v := ?_) (LN := #[true, true, true, true, true, true, true, true, true, true, true, true, true, true, true, true, true, true, true, true, true, true, true, true, true]) rfl (by kernel_rfl) (by kernel_rfl) (by kernel_rfl) (fun _ _ _ h => h) (by kernel_rfl) (by rfl) (by assumption) ?_ ?_
              rotate_left
              · intro w hSw; (try dsimp only at hSw); first | (go_simp; done) | (go_simp; with_reducible rfl)
              try simp only [Act.put, List.getElem_toArray, List.getElem_cons_zero, List.getElem_cons_succ, List.setIfInBounds_toArray, List.set_cons_zero, List.set_cons_succ]
              refine ⟨by kernel_rfl, ?_⟩
              try simp only [Act.put, List.getElem_toArray, List.getElem_cons_zero, List.getElem_cons_succ, List.setIfInBounds_toArray, List.set_cons_zero, List.set_cons_succ]
              go_wp2_with fail
              go_end0
              have hx := HX.out
              have hy := HY.out
              exact ⟨rfl, r3, ring2, lo2, hi2, u2, n2, m3, HK.out, hr3, HEX.out, ⟨.inr (by have := HMB.out; omega), by have := HI.out.sfr; rw [HI.out.sure, this]; have := hx.2.2.2.2; have := hy.2.2.2.1; omega, by have := HI.out.sfr; rw [HI.out.sure, this]; have := hx.2.2.2.2; have := hy.2.2.2.2; omega⟩, by rw [hy.1]; exact hx.1, by rw [hy.2.1]; exact hx.2.1, by rw [hy.2.2.1]; exact hx.2.2.1, hx.2.2.2.1, S7⟩
          · have hso : (stA code cap fuel seed q m3).over = true := by rw [← HK.out.sure]; exact hov
            go_upto_region 3 with fail
            refine wp_region_drawn (N := 25) (LN := #[false, false, false, false, false, false, false, false, false, false, false, false, false, false, false, false, false, false, false, false, false, false, false, false, false]) (by kernel_rfl) (by kernel_rfl) (by kernel_rfl) ?_
            have S7 := S6.drew
            generalize wr.drew = w7 at S7 ⊢
            clear S6 S5
            refine wpAny_held (fun w' => w'.cell? ⟨g, 46, none⟩ = some (.bool true)) (by rw [(r_at hr3 S7).so, hov]) (fun hHeld => ?_)
            refine wpAnyH_tk (i := 0) (v := ?_) (LN := #[true, false, false, false, false, false, false, false, false, false, false, false, false, false, false, false, false, false, false, false, false, false, false, false, false]) rfl (by kernel_rfl) (by kernel_rfl) (by kernel_rfl) (fun _ _ _ h => h) (by kernel_rfl) (by rfl) (by assumption) ?_ ?_
            rotate_left
            · intro w hSw; (try dsimp only at hSw); first | (go_simp; done) | (go_simp; with_reducible rfl)
            try simp only [Act.put, List.getElem_toArray, List.getElem_cons_zero, List.getElem_cons_succ, List.setIfInBounds_toArray, List.set_cons_zero, List.set_cons_succ]
            refine wpAnyH_tk (i := 1) (v := ?_) (LN := #[true, true, false, false, false, false, false, false, false, false, false, false, false, false, false, false, false, false, false, false, false, false, false, false, false]) rfl (by kernel_rfl) (by kernel_rfl) (by kernel_rfl) (fun _ _ _ h => h) (by kernel_rfl) (by rfl) (by assumption) ?_ ?_
            rotate_left
            · intro w hSw; (try dsimp only at hSw); first | (go_simp; done) | (go_simp; with_reducible rfl)
            try simp only [Act.put, List.getElem_toArray, List.getElem_cons_zero, List.getElem_cons_succ, List.setIfInBounds_toArray, List.set_cons_zero, List.set_cons_succ]
            refine wpAnyH_tk (i := 2) (v := ?_) (LN := #[true, true, true, false, false, false, false, false, false, false, false, false, false, false, false, false, false, false, false, false, false, false, false, false, false]) rfl (by kernel_rfl) (by kernel_rfl) (by kernel_rfl) (fun _ _ _ h => h) (by kernel_rfl) (by rfl) (by assumption) ?_ ?_
            rotate_left
            · intro w hSw; (try dsimp only at hSw); first | (go_simp; done) | (go_simp; with_reducible rfl)
            try simp only [Act.put, List.getElem_toArray, List.getElem_cons_zero, List.getElem_cons_succ, List.setIfInBounds_toArray, List.set_cons_zero, List.set_cons_succ]
            refine wpAnyH_tk (i := 3) (v := ?_) (LN := #[true, true, true, true, false, false, false, false, false, false, false, false, false, false, false, false, false, false, false, false, false, false, false, false, false]) rfl (by kernel_rfl) (by kernel_rfl) (by kernel_rfl) (fun _ _ _ h => h) (by kernel_rfl) (by rfl) (by assumption) ?_ ?_
            rotate_left
            · intro w hSw; (try dsimp only at hSw); first | (go_simp; done) | (go_simp; with_reducible rfl)
            try simp only [Act.put, List.getElem_toArray, List.getElem_cons_zero, List.getElem_cons_succ, List.setIfInBounds_toArray, List.set_cons_zero, List.set_cons_succ]
            refine wpAnyH_tk (i := 4) (v := ?_) (LN := #[true, true, true, true, true, false, false, false, false, false, false, false, false, false, false, false, false, false, false, false, false, false, false, false, false]) rfl (by kernel_rfl) (by kernel_rfl) (by kernel_rfl) (fun _ _ _ h => h) (by kernel_rfl) (by rfl) (by assumption) ?_ ?_
            rotate_left
            · intro w hSw; (try dsimp only at hSw); first | (go_simp; done) | (go_simp; with_reducible rfl)
            try simp only [Act.put, List.getElem_toArray, List.getElem_cons_zero, List.getElem_cons_succ, List.setIfInBounds_toArray, List.set_cons_zero, List.set_cons_succ]
            refine wpAnyH_tk (i := 5) (v := ?_) (LN := #[true, true, true, true, true, true, false, false, false, false, false, false, false, false, false, false, false, false, false, false, false, false, false, false, false]) rfl (by kernel_rfl) (by kernel_rfl) (by kernel_rfl) (fun _ _ _ h => h) (by kernel_rfl) (by rfl) (by assumption) ?_ ?_
            rotate_left
            · intro w hSw; (try dsimp only at hSw); first | (go_simp; done) | (go_simp; with_reducible rfl)
            try simp only [Act.put, List.getElem_toArray, List.getElem_cons_zero, List.getElem_cons_succ, List.setIfInBounds_toArray, List.set_cons_zero, List.set_cons_succ]
            refine wpAnyH_tk (i := 6) (v := ?_) (LN := #[true, true, true, true, true, true, true, false, false, false, false, false, false, false, false, false, false, false, false, false, false, false, false, false, false]) rfl (by kernel_rfl) (by kernel_rfl) (by kernel_rfl) (fun _ _ _ h => h) (by kernel_rfl) (by rfl) (by assumption) ?_ ?_
            rotate_left
            · intro w hSw; (try dsimp only at hSw); first | (go_simp; done) | (go_simp; with_reducible rfl)
            try simp only [Act.put, List.getElem_toArray, List.getElem_cons_zero, List.getElem_cons_succ, List.setIfInBounds_toArray, List.set_cons_zero, List.set_cons_succ]
            refine wpAnyH_off (i := 7) (LN := #[true, true, true, true, true, true, true, true, false, false, false, false, false, false, false, false, false, false, false, false, false, false, false, false, false]) rfl (by kernel_rfl) (by kernel_rfl) (by kernel_rfl) (fun _ _ _ h => h) (by kernel_rfl) (by rfl) (by assumption) ?_
            try simp only [Act.put, List.getElem_toArray, List.getElem_cons_zero, List.getElem_cons_succ, List.setIfInBounds_toArray, List.set_cons_zero, List.set_cons_succ]
            refine wpAnyH_off (i := 8) (LN := #[true, true, true, true, true, true, true, true, true, false, false, false, false, false, false, false, false, false, false, false, false, false, false, false, false]) rfl (by kernel_rfl) (by kernel_rfl) (by kernel_rfl) (fun _ _ _ h => h) (by kernel_rfl) (by rfl) (by assumption) ?_
            try simp only [Act.put, List.getElem_toArray, List.getElem_cons_zero, List.getElem_cons_succ, List.setIfInBounds_toArray, List.set_cons_zero, List.set_cons_succ]
            refine wpAnyH_off (i := 9) (LN := #[true, true, true, true, true, true, true, true, true, true, false, false, false, false, false, false, false, false, false, false, false, false, false, false, false]) rfl (by kernel_rfl) (by kernel_rfl) (by kernel_rfl) (fun _ _ _ h => h) (by kernel_rfl) (by rfl) (by assumption) ?_
            try simp only [Act.put, List.getElem_toArray, List.getElem_cons_zero, List.getElem_cons_succ, List.setIfInBounds_toArray, List.set_cons_zero, List.set_cons_succ]
            refine wpAnyH_off (i := 10) (LN := #[true, true, true, true, true, true, true, true, true, true, true, false, false, false, false, false, false, false, false, false, false, false, false, false, false]) rfl (by kernel_rfl) (by kernel_rfl) (by kernel_rfl) (fun _ _ _ h => h) (by kernel_rfl) (by rfl) (by assumption) ?_
            try simp only [Act.put, List.getElem_toArray, List.getElem_cons_zero, List.getElem_cons_succ, List.setIfInBounds_toArray, List.set_cons_zero, List.set_cons_succ]
            refine wpAnyH_off (i := 11) (LN := #[true, true, true, true, true, true, true, true, true, true, true, true, false, false, false, false, false, false, false, false, false, false, false, false, false]) rfl (by kernel_rfl) (by kernel_rfl) (by kernel_rfl) (fun _ _ _ h => h) (by kernel_rfl) (by rfl) (by assumption) ?_
            try simp only [Act.put, List.getElem_toArray, List.getElem_cons_zero, List.getElem_cons_succ, List.setIfInBounds_toArray, List.set_cons_zero, List.set_cons_succ]
            refine wpAnyH_off (i := 12) (LN := #[true, true, true, true, true, true, true, true, true, true, true, true, true, false, false, false, false, false, false, false, false, false, false, false, false]) rfl (by kernel_rfl) (by kernel_rfl) (by kernel_rfl) (fun _ _ _ h => h) (by kernel_rfl) (by rfl) (by assumption) ?_
            try simp only [Act.put, List.getElem_toArray, List.getElem_cons_zero, List.getElem_cons_succ, List.setIfInBounds_toArray, List.set_cons_zero, List.set_cons_succ]
            refine wpAnyH_off (i := 13) (LN := #[true, true, true, true, true, true, true, true, true, true, true, true, true, true, false, false, false, false, false, false, false, false, false, false, false]) rfl (by kernel_rfl) (by kernel_rfl) (by kernel_rfl) (fun _ _ _ h => h) (by kernel_rfl) (by rfl) (by assumption) ?_
            try simp only [Act.put, List.getElem_toArray, List.getElem_cons_zero, List.getElem_cons_succ, List.setIfInBounds_toArray, List.set_cons_zero, List.set_cons_succ]
            refine wpAnyH_off (i := 14) (LN := #[true, true, true, true, true, true, true, true, true, true, true, true, true, true, true, false, false, false, false, false, false, false, false, false, false]) rfl (by kernel_rfl) (by kernel_rfl) (by kernel_rfl) (fun _ _ _ h => h) (by kernel_rfl) (by rfl) (by assumption) ?_
            try simp only [Act.put, List.getElem_toArray, List.getElem_cons_zero, List.getElem_cons_succ, List.setIfInBounds_toArray, List.set_cons_zero, List.set_cons_succ]
            refine wpAnyH_off (i := 15) (LN := #[true, true, true, true, true, true, true, true, true, true, true, true, true, true, true, true, false, false, false, false, false, false, false, false, false]) rfl (by kernel_rfl) (by kernel_rfl) (by kernel_rfl) (fun _ _ _ h => h) (by kernel_rfl) (by rfl) (by assumption) ?_
            try simp only [Act.put, List.getElem_toArray, List.getElem_cons_zero, List.getElem_cons_succ, List.setIfInBounds_toArray, List.set_cons_zero, List.set_cons_succ]
            refine wpAnyH_off (i := 16) (LN := #[true, true, true, true, true, true, true, true, true, true, true, true, true, true, true, true, true, false, false, false, false, false, false, false, false]) rfl (by kernel_rfl) (by kernel_rfl) (by kernel_rfl) (fun _ _ _ h => h) (by kernel_rfl) (by rfl) (by assumption) ?_
            try simp only [Act.put, List.getElem_toArray, List.getElem_cons_zero, List.getElem_cons_succ, List.setIfInBounds_toArray, List.set_cons_zero, List.set_cons_succ]
            refine wpAnyH_off (i := 17) (LN := #[true, true, true, true, true, true, true, true, true, true, true, true, true, true, true, true, true, true, false, false, false, false, false, false, false]) rfl (by kernel_rfl) (by kernel_rfl) (by kernel_rfl) (fun _ _ _ h => h) (by kernel_rfl) (by rfl) (by assumption) ?_
            try simp only [Act.put, List.getElem_toArray, List.getElem_cons_zero, List.getElem_cons_succ, List.setIfInBounds_toArray, List.set_cons_zero, List.set_cons_succ]
            refine wpAnyH_off (i := 18) (LN := #[true, true, true, true, true, true, true, true, true, true, true, true, true, true, true, true, true, true, true, false, false, false, false, false, false]) rfl (by kernel_rfl) (by kernel_rfl) (by kernel_rfl) (fun _ _ _ h => h) (by kernel_rfl) (by rfl) (by assumption) ?_
            try simp only [Act.put, List.getElem_toArray, List.getElem_cons_zero, List.getElem_cons_succ, List.setIfInBounds_toArray, List.set_cons_zero, List.set_cons_succ]
            refine wpAnyH_off (i := 19) (LN := #[true, true, true, true, true, true, true, true, true, true, true, true, true, true, true, true, true, true, true, true, false, false, false, false, false]) rfl (by kernel_rfl) (by kernel_rfl) (by kernel_rfl) (fun _ _ _ h => h) (by kernel_rfl) (by rfl) (by assumption) ?_
            try simp only [Act.put, List.getElem_toArray, List.getElem_cons_zero, List.getElem_cons_succ, List.setIfInBounds_toArray, List.set_cons_zero, List.set_cons_succ]
            refine wpAnyH_off (i := 20) (LN := #[true, true, true, true, true, true, true, true, true, true, true, true, true, true, true, true, true, true, true, true, true, false, false, false, false]) rfl (by kernel_rfl) (by kernel_rfl) (by kernel_rfl) (fun _ _ _ h => h) (by kernel_rfl) (by rfl) (by assumption) ?_
            try simp only [Act.put, List.getElem_toArray, List.getElem_cons_zero, List.getElem_cons_succ, List.setIfInBounds_toArray, List.set_cons_zero, List.set_cons_succ]
            refine wpAnyH_off (i := 21) (LN := #[true, true, true, true, true, true, true, true, true, true, true, true, true, true, true, true, true, true, true, true, true, true, false, false, false]) rfl (by kernel_rfl) (by kernel_rfl) (by kernel_rfl) (fun _ _ _ h => h) (by kernel_rfl) (by rfl) (by assumption) ?_
            try simp only [Act.put, List.getElem_toArray, List.getElem_cons_zero, List.getElem_cons_succ, List.setIfInBounds_toArray, List.set_cons_zero, List.set_cons_succ]
            refine wpAnyH_off (i := 22) (LN := #[true, true, true, true, true, true, true, true, true, true, true, true, true, true, true, true, true, true, true, true, true, true, true, false, false]) rfl (by kernel_rfl) (by kernel_rfl) (by kernel_rfl) (fun _ _ _ h => h) (by kernel_rfl) (by rfl) (by assumption) ?_
            try simp only [Act.put, List.getElem_toArray, List.getElem_cons_zero, List.getElem_cons_succ, List.setIfInBounds_toArray, List.set_cons_zero, List.set_cons_succ]
            refine wpAnyH_off (i := 23) (LN := #[true, true, true, true, true, true, true, true, true, true, true, true, true, true, true, true, true, true, true, true, true, true, true, true, false]) rfl (by kernel_rfl) (by kernel_rfl) (by kernel_rfl) (fun _ _ _ h => h) (by kernel_rfl) (by rfl) (by assumption) ?_
            try simp only [Act.put, List.getElem_toArray, List.getElem_cons_zero, List.getElem_cons_succ, List.setIfInBounds_toArray, List.set_cons_zero, List.set_cons_succ]
            refine wpAnyH_tk (i := 24) (v := ?_) (LN := #[true, true, true, true, true, true, true, true, true, true, true, true, true, true, true, true, true, true, true, true, true, true, true, true, true]) rfl (by kernel_rfl) (by kernel_rfl) (by kernel_rfl) (fun _ _ _ h => h) (by kernel_rfl) (by rfl) (by assumption) ?_ ?_
            rotate_left
            · intro w hSw; (try dsimp only at hSw); first | (go_simp; done) | (go_simp; with_reducible rfl)
            try simp only [Act.put, List.getElem_toArray, List.getElem_cons_zero, List.getElem_cons_succ, List.setIfInBounds_toArray, List.set_cons_zero, List.set_cons_succ]
            refine ⟨by kernel_rfl, ?_⟩
            try simp only [Act.put, List.getElem_toArray, List.getElem_cons_zero, List.getElem_cons_succ, List.setIfInBounds_toArray, List.set_cons_zero, List.set_cons_succ]
            go_wp2_with fail
            go_end0
            have hx := HX.out
            have hy := HY.out
            exact ⟨rfl, r3, ring2, lo2, hi2, u2, n2, m3, HK.out, hr3, HEX.out, ⟨.inl hso, by have := HI.out.sfr; rw [HI.out.sure, this]; have := hx.2.2.2.2; have := hy.2.2.2.1; omega, by have := HI.out.sfr; rw [HI.out.sure, this]; have := hx.2.2.2.2; have := hy.2.2.2.2; omega⟩, by rw [hy.1]; exact hx.1, by rw [hy.2.1]; exact hx.2.1, by rw [hy.2.2.1]; exact hx.2.2.1, hx.2.2.2.1, S7⟩
end Go.Proofs.YtjdeeloemhjbhaaGreat
end

section
namespace Go.Proofs.YtjdeeloemhjbhaaGreat
open Go.RowKit Go.Sep Go.Oct Go.Vm Go.Inp
set_option linter.unusedSimpArgs false

theorem ent_local : Ent 32 := by
  unfold Ent
  intro args w
  simp [go_sem]
set_option maxRecDepth 100000 in
set_option maxHeartbeats 3200000 in
theorem rbLocal_over {W0 w : World} {L : List Asn} {g : Nat} {r : SR} (S : Sat W0 w (blk g (rv r) 74 :: L)) (hr : r.Ok) (ho : r.now.over = true ∨ r.sure.over = true) (x : Int) :
    Calls Tryz.prog 11 #[.pointer (some ⟨g, 0, none⟩), .int .u16 x] w fun e w' => e = .returned (.tuple #[.int .i64 0, .int .i64 12]) ∧ Sat W0 w' (blk g (rv r) 74 :: L) := by
  have S1 := (S.alloc [.pointer (some ⟨g, 0, none⟩)] 31).alloc [.int .u16 x] 38
  simp only [World.size_alloc] at S1
  have hA := r_at hr (S1.sel [2])
  have c26 := hA.no
  have c46 := hA.so
  clear hA
  have hb := S1.cell 1 rfl 0
  simp only [List.getElem?_cons_zero] at hb
  cases h1 : r.now.over
  · have h2 : r.sure.over = true := by rcases ho with h | h
                                       · rw [h1] at h; cases h
                                       · exact h
    rw [h1] at c26
    rw [h2] at c46
    clear ho
    go_enter Tryz.func11, Tryz.ntmps11
    go_wp2_with fail
    go_ret2
    exact ⟨rfl, S1.tail.tail⟩
  · rw [h1] at c26
    clear ho c46
    go_enter Tryz.func11, Tryz.ntmps11
    go_wp2_with fail
    go_ret2
    exact ⟨rfl, S1.tail.tail⟩
set_option maxRecDepth 100000 in
set_option maxHeartbeats 3200000 in
theorem rbLocal_far {W0 w : World} {L : List Asn} {g : Nat} {r : SR} (S : Sat W0 w (blk g (rv r) 74 :: L)) (hr : r.Ok) (h1 : r.now.over = false) (h2 : r.sure.over = false) {n m : Nat} (hn : r.now.frame = n) (hm : r.sure.frame = m) (hf : m + 8 ≤ n) (hn6 : n ≤ 1000) (x : Int) :
    Calls Tryz.prog 11 #[.pointer (some ⟨g, 0, none⟩), .int .u16 x] w fun e w' => e = .returned (.tuple #[.int .i64 0, .int .i64 13]) ∧ Sat W0 w' (blk g (rv r) 74 :: L) := by
  have S1 := (S.alloc [.pointer (some ⟨g, 0, none⟩)] 31).alloc [.int .u16 x] 38
  simp only [World.size_alloc] at S1
  have hA := r_at hr (S1.sel [2])
  have c26 := hA.no
  have c46 := hA.so
  rw [h1] at c26
  rw [h2] at c46
  have hb := S1.cell 1 rfl 0
  simp only [List.getElem?_cons_zero] at hb
  have hw : IntKind.i64.wrap ((n : Int) - (m : Int)) = (n : Int) - (m : Int) := by rw [IntKind.wrap_i64]; omega
  have hd : decide ((8 : Int) ≤ (n : Int) - (m : Int)) = true := decide_eq_true (by omega)
  have HN := Lib.hid (⟨hn, hm⟩ : _ ∧ _)
  clear hA h1 h2 hn hm
  go_enter Tryz.func11, Tryz.ntmps11
  go_upto_region 5 with fail
  refine wp_region_drawn (N := 13) (LN := #[false, false, false, false, false, false, false, false, false, false, false, false, false]) (by kernel_rfl) (by kernel_rfl) (by kernel_rfl) ?_
  have S2 := S1.drew
  change Sat W0 (World.drew (World.alloc (World.alloc w _) _)) _ at S2
  generalize World.drew (World.alloc (World.alloc w _) _) = w2 at S2 ⊢
  generalize w.heap.size = b1 at S2 ⊢
  have hA := r_at hr (S2.sel [2])
  have c8 := hA.nf
  have c28 := hA.sf
  rw [HN.out.1] at c8
  rw [HN.out.2] at c28
  clear hA c26 c46 hb S1
  have hb := S2.cell 1 rfl 0
  simp only [List.getElem?_cons_zero] at hb
  refine wpAny_seg 0 12 1 13 #[true, true, true, true, true, true, true, true, true, true, true, true, false] (by kernel_rfl) (by kernel_rfl) ?_
  simp only [List.take_succ_cons, List.take_zero, List.drop_succ_cons, List.drop_zero]
  refine wpStill_step (fun K hK => ?_); go_simp; refine hK _ ?_; clear hK K
  try simp only [Act.put, List.getElem_toArray, List.getElem_cons_zero, List.getElem_cons_succ, List.setIfInBounds_toArray, List.set_cons_zero, List.set_cons_succ]
  refine wpStill_step (fun K hK => ?_); go_simp; refine hK _ ?_; clear hK K
  try simp only [Act.put, List.getElem_toArray, List.getElem_cons_zero, List.getElem_cons_succ, List.setIfInBounds_toArray, List.set_cons_zero, List.set_cons_succ]
  refine wpStill_step (fun K hK => ?_); go_simp; refine hK _ ?_; clear hK K
  try simp only [Act.put, List.getElem_toArray, List.getElem_cons_zero, List.getElem_cons_succ, List.setIfInBounds_toArray, List.set_cons_zero, List.set_cons_succ]
  refine wpStill_step (fun K hK => ?_); go_simp; refine hK _ ?_; clear hK K
  try simp only [Act.put, List.getElem_toArray, List.getElem_cons_zero, List.getElem_cons_succ, List.setIfInBounds_toArray, List.set_cons_zero, List.set_cons_succ]
  refine wpStill_step (fun K hK => ?_); go_simp; refine hK _ ?_; clear hK K
  try simp only [Act.put, List.getElem_toArray, List.getElem_cons_zero, List.getElem_cons_succ, List.setIfInBounds_toArray, List.set_cons_zero, List.set_cons_succ]
  refine wpStill_step (fun K hK => ?_); go_simp; refine hK _ ?_; clear hK K
  try simp only [Act.put, List.getElem_toArray, List.getElem_cons_zero, List.getElem_cons_succ, List.setIfInBounds_toArray, List.set_cons_zero, List.set_cons_succ]
  refine wpStill_step (fun K hK => ?_); go_simp; refine hK _ ?_; clear hK K
  try simp only [Act.put, List.getElem_toArray, List.getElem_cons_zero, List.getElem_cons_succ, List.setIfInBounds_toArray, List.set_cons_zero, List.set_cons_succ]
  refine wpStill_step (fun K hK => ?_); go_simp; refine hK _ ?_; clear hK K
  try simp only [Act.put, List.getElem_toArray, List.getElem_cons_zero, List.getElem_cons_succ, List.setIfInBounds_toArray, List.set_cons_zero, List.set_cons_succ]
  refine wpStill_step (fun K hK => ?_); go_simp; refine hK _ ?_; clear hK K
  try simp only [Act.put, List.getElem_toArray, List.getElem_cons_zero, List.getElem_cons_succ, List.setIfInBounds_toArray, List.set_cons_zero, List.set_cons_succ]
  refine wpStill_step (fun K hK => ?_); go_simp; refine hK _ ?_; clear hK K
  try simp only [Act.put, List.getElem_toArray, List.getElem_cons_zero, List.getElem_cons_succ, List.setIfInBounds_toArray, List.set_cons_zero, List.set_cons_succ]
  refine wpStill_step (fun K hK => ?_); go_simp; refine hK _ ?_; clear hK K
  try simp only [Act.put, List.getElem_toArray, List.getElem_cons_zero, List.getElem_cons_succ, List.setIfInBounds_toArray, List.set_cons_zero, List.set_cons_succ]
  refine wpStill_step (fun K hK => ?_); go_simp; refine hK _ ?_; clear hK K
  try simp only [Act.put, List.getElem_toArray, List.getElem_cons_zero, List.getElem_cons_succ, List.setIfInBounds_toArray, List.set_cons_zero, List.set_cons_succ]
  refine wpStill_nil ?_
  refine wpAny_loc (i := 12) (v := ?_) (LN := #[true, true, true, true, true, true, true, true, true, true, true, true, true]) rfl (by kernel_rfl) (by kernel_rfl) (by kernel_rfl) (fun _ _ _ h => h) (by kernel_rfl) (by rfl) ?_ ?_
  rotate_left
  · intro w; first | (go_simp; done) | (go_simp; with_reducible rfl)
  try simp only [Act.put, List.getElem_toArray, List.getElem_cons_zero, List.getElem_cons_succ, List.setIfInBounds_toArray, List.set_cons_zero, List.set_cons_succ]
  refine ⟨by kernel_rfl, ?_⟩
  try simp only [Act.put, List.getElem_toArray, List.getElem_cons_zero, List.getElem_cons_succ, List.setIfInBounds_toArray, List.set_cons_zero, List.set_cons_succ]
  clear c8 c28 hb
  go_wp2_with fail
  go_ret2
  exact ⟨rfl, S2.tail.tail⟩

def Locald (W0 : World) (L : List Asn) (g : Nat) (code : List (Int × Int)) (cap fuel seed : Int) (q : PQ) (r : SR) (n d : Nat) (e : Ending) (w' : World) : Prop :=
  e = .returned (.tuple #[.int .i64 n, .int .i64 0]) ∧ Gone W0 L g code cap fuel seed q r n d (.returned (.tuple #[])) w'
set_option maxRecDepth 100000 in
set_option maxHeartbeats 3200000 in
theorem rbLocal_ok {W0 w : World} {L : List Asn} {g : Nat} {code : List (Int × Int)} {cap fuel seed : Int} (hk : checkP code cap fuel = 0) (hs : 0 ≤ seed ∧ seed < 4294967296) (hcl : code.length ≤ 1000) {q : PQ} (hq : q.ok)
    {r : SR} (hr : r.Ok) {ring : List VS} {lo hi : Int} {u : List (Int × Int)} {n m : Nat} (S : Sat W0 w (RA g r q ring lo hi u code ++ L)) (h1 : r.now.over = false) (h2 : r.sure.over = false) (hn : r.now.frame = n) (hm : r.sure.frame = m) (hmn : m ≤ n) (hf : n < m + 8) (hn6 : n ≤ 600) (x : Int)
    {q' : PQ} (hq' : (q.put r.me n x).2 = q') (hqo : q'.ok) (hqb : QB q') (hst9 : r.st ≤ 900000000) (hI : SInv code cap fuel seed q' { r with dn := (n : Int) + 1 } ring lo hi u n m (n + 1)) :
    Calls Tryz.prog 11 #[.pointer (some ⟨g, 0, none⟩), .int .u16 x] w (Locald W0 L g code cap fuel seed q' { r with dn := (n : Int) + 1 } n (n + 1)) := by
  have S0 : Sat W0 w (blk g (rv r) 74 :: Qu r.qp q :: RG r.rp ring lo hi :: sps r.ua r.un r.uc u :: sis r.ca r.cn r.cc code :: L) := S
  have S1 := (S0.alloc [.pointer (some ⟨g, 0, none⟩)] 31).alloc [.int .u16 x] 38
  simp only [World.size_alloc] at S1
  have hA := r_at hr (S1.sel [2])
  have c26 := hA.no
  have c46 := hA.so
  rw [h1] at c26
  rw [h2] at c46
  have hb := S1.cell 1 rfl 0
  simp only [List.getElem?_cons_zero] at hb
  have hw : IntKind.i64.wrap ((n : Int) - (m : Int)) = (n : Int) - (m : Int) := by rw [IntKind.wrap_i64]; omega
  have hd : decide ((8 : Int) ≤ (n : Int) - (m : Int)) = false := decide_eq_false (by omega)
  have HN := Lib.hid (⟨hn, hm⟩ : _ ∧ _)
  have HQ := Lib.hid hq'
  clear hA h1 h2 hn hm S S0 hq'
  go_enter Tryz.func11, Tryz.ntmps11
  go_upto_region 5 with fail
  refine wp_region_drawn (N := 13) (LN := #[false, false, false, false, false, false, false, false, false, false, false, false, false]) (by kernel_rfl) (by kernel_rfl) (by kernel_rfl) ?_
  have S2 := S1.drew
  change Sat W0 (World.drew (World.alloc (World.alloc w _) _)) _ at S2
  generalize World.drew (World.alloc (World.alloc w _) _) = w2 at S2 ⊢
  generalize w.heap.size + 1 = b3 at S2 ⊢
  generalize w.heap.size = b1 at S2 ⊢
  have hA := r_at hr (S2.sel [2])
  have c8 := hA.nf
  have c28 := hA.sf
  rw [HN.out.1] at c8
  rw [HN.out.2] at c28
  clear hA c26 c46 hb S1
  have hb := S2.cell 1 rfl 0
  simp only [List.getElem?_cons_zero] at hb
  refine wpAny_seg 0 12 1 13 #[true, true, true, true, true, true, true, true, true, true, true, true, false] (by kernel_rfl) (by kernel_rfl) ?_
  simp only [List.take_succ_cons, List.take_zero, List.drop_succ_cons, List.drop_zero]
  refine wpStill_step (fun K hK => ?_); go_simp; refine hK _ ?_; clear hK K
  try simp only [Act.put, List.getElem_toArray, List.getElem_cons_zero, List.getElem_cons_succ, List.setIfInBounds_toArray, List.set_cons_zero, List.set_cons_succ]
  refine wpStill_step (fun K hK => ?_); go_simp; refine hK _ ?_; clear hK K
  try simp only [Act.put, List.getElem_toArray, List.getElem_cons_zero, List.getElem_cons_succ, List.setIfInBounds_toArray, List.set_cons_zero, List.set_cons_succ]
  refine wpStill_step (fun K hK => ?_); go_simp; refine hK _ ?_; clear hK K
  try simp only [Act.put, List.getElem_toArray, List.getElem_cons_zero, List.getElem_cons_succ, List.setIfInBounds_toArray, List.set_cons_zero, List.set_cons_succ]
  refine wpStill_step (fun K hK => ?_); go_simp; refine hK _ ?_; clear hK K
  try simp only [Act.put, List.getElem_toArray, List.getElem_cons_zero, List.getElem_cons_succ, List.setIfInBounds_toArray, List.set_cons_zero, List.set_cons_succ]
  refine wpStill_step (fun K hK => ?_); go_simp; refine hK _ ?_; clear hK K
  try simp only [Act.put, List.getElem_toArray, List.getElem_cons_zero, List.getElem_cons_succ, List.setIfInBounds_toArray, List.set_cons_zero, List.set_cons_succ]
  refine wpStill_step (fun K hK => ?_); go_simp; refine hK _ ?_; clear hK K
  try simp only [Act.put, List.getElem_toArray, List.getElem_cons_zero, List.getElem_cons_succ, List.setIfInBounds_toArray, List.set_cons_zero, List.set_cons_succ]
  refine wpStill_step (fun K hK => ?_); go_simp; refine hK _ ?_; clear hK K
  try simp only [Act.put, List.getElem_toArray, List.getElem_cons_zero, List.getElem_cons_succ, List.setIfInBounds_toArray, List.set_cons_zero, List.set_cons_succ]
  refine wpStill_step (fun K hK => ?_); go_simp; refine hK _ ?_; clear hK K
  try simp only [Act.put, List.getElem_toArray, List.getElem_cons_zero, List.getElem_cons_succ, List.setIfInBounds_toArray, List.set_cons_zero, List.set_cons_succ]
  refine wpStill_step (fun K hK => ?_); go_simp; refine hK _ ?_; clear hK K
  try simp only [Act.put, List.getElem_toArray, List.getElem_cons_zero, List.getElem_cons_succ, List.setIfInBounds_toArray, List.set_cons_zero, List.set_cons_succ]
  refine wpStill_step (fun K hK => ?_); go_simp; refine hK _ ?_; clear hK K
  try simp only [Act.put, List.getElem_toArray, List.getElem_cons_zero, List.getElem_cons_succ, List.setIfInBounds_toArray, List.set_cons_zero, List.set_cons_succ]
  refine wpStill_step (fun K hK => ?_); go_simp; refine hK _ ?_; clear hK K
  try simp only [Act.put, List.getElem_toArray, List.getElem_cons_zero, List.getElem_cons_succ, List.setIfInBounds_toArray, List.set_cons_zero, List.set_cons_succ]
  refine wpStill_step (fun K hK => ?_); go_simp; refine hK _ ?_; clear hK K
  try simp only [Act.put, List.getElem_toArray, List.getElem_cons_zero, List.getElem_cons_succ, List.setIfInBounds_toArray, List.set_cons_zero, List.set_cons_succ]
  refine wpStill_nil ?_
  refine wpAny_loc (i := 12) (v := ?_) (LN := #[true, true, true, true, true, true, true, true, true, true, true, true, true]) rfl (by kernel_rfl) (by kernel_rfl) (by kernel_rfl) (fun _ _ _ h => h) (by kernel_rfl) (by rfl) ?_ ?_
  rotate_left
  · intro w; first | (go_simp; done) | (go_simp; with_reducible rfl)
  try simp only [Act.put, List.getElem_toArray, List.getElem_cons_zero, List.getElem_cons_succ, List.setIfInBounds_toArray, List.set_cons_zero, List.set_cons_succ]
  refine ⟨by kernel_rfl, ?_⟩
  try simp only [Act.put, List.getElem_toArray, List.getElem_cons_zero, List.getElem_cons_succ, List.setIfInBounds_toArray, List.set_cons_zero, List.set_cons_succ]
  have S3 := S2.alloc [.int .i64 n] 3
  have S4 : Sat W0 _ (blk b1 [.pointer (some ⟨g, 0, none⟩)] 31 :: blk w2.heap.size [.int .i64 n] 3 :: blk b3 [.int .u16 x] 38 :: (RA g r q ring lo hi u code ++ L)) := S3.sel [2, 0, 0]
  have HT := Lib.hid (rbTold_any S4 hr hq (by omega))
  go_upto_region 8 with fail
  have hro : ({ r with dn := (n : Int) + 1 } : SR).Ok := ⟨hr.now, hr.sure⟩
  have HG := Lib.hid (rbGoes_any (L := blk b1 [.pointer (some ⟨g, 0, none⟩)] 31 :: blk w2.heap.size [.int .i64 n] 3 :: blk b3 [.int .u16 x] 38 :: L) ent_local hk hs hcl hqo hqb hro hI hst9 (HT.out.mono (by
    rintro e w' ⟨rfl, h⟩
    rw [HQ.out] at h
    exact ⟨rfl, h.sel [3, 3, 3, 3, 3]⟩)))
  clear c8 c28 HT hb
  have hb2 := S4.cell 0 rfl 0
  simp only [List.getElem?_cons_zero] at hb2
  generalize w2.heap.size = b2 at HG S3 ⊢
  clear S3 S4
  change World.cell? (World.alloc w2 _) _ = _ at hb2
  generalize World.alloc w2 _ = w4 at HG hb2 ⊢
  go_wp2_with (first
    | (go_at_call 31; refine HG.out.mono ?_; unfold Gone; rintro e w5 ⟨rfl, r2, ring2, lo2, hi2, u2, n2, m2, j1, j2, j3, j4, j5, j6, j7, j8, S5⟩; have h2 := (S5.sel [6]).cell 0 rfl 0; simp only [List.getElem?_cons_zero] at h2; have J3 := Lib.hid j3; have J4 := Lib.hid j4; have J1 := Lib.hid j1; have J5 := Lib.hid j5; have J6 := Lib.hid j6; have J7 := Lib.hid j7; clear j1 j3 j4 j5 j6 j7))
  go_ret2
  exact ⟨rfl, rfl, r2, ring2, lo2, hi2, u2, n2, m2, J1.out, j2, J3.out, J4.out, J5.out, J6.out, J7.out, j8, (S5.sel [5, 5, 5]).tail.tail.tail⟩
end Go.Proofs.YtjdeeloemhjbhaaGreat
end

section
namespace Go.Proofs.YtjdeeloemhjbhaaGreat
open Go.RowKit Go.Sep Go.Oct Go.Vm Go.Inp
set_option linter.unusedSimpArgs false

set_option maxRecDepth 100000 in
set_option maxHeartbeats 3200000 in
theorem rbRemote_arg {W0 w : World} {L : List Asn} {g : Nat} {r : SR} (S : Sat W0 w (blk g (rv r) 74 :: L)) (hr : r.Ok) {fr : Int} (h : fr < 0 ∨ r.cap ≤ fr) (x : Int) :
    Calls Tryz.prog 12 #[.pointer (some ⟨g, 0, none⟩), .int .i64 fr, .int .u16 x] w fun e w' => e = .returned (.int .i64 1) ∧ Sat W0 w' (blk g (rv r) 74 :: L) := by
  have c1 := (r_at hr S).cap
  by_cases h0 : fr < 0
  · have hd : decide (fr < 0) = true := decide_eq_true h0
    go_enter Tryz.func12, Tryz.ntmps12
    go_wp2_with fail
    go_ret
    exact ⟨rfl, S⟩
  · have hd : decide (fr < 0) = false := decide_eq_false h0
    have hd2 : decide (r.cap ≤ fr) = true := decide_eq_true (by omega)
    go_enter Tryz.func12, Tryz.ntmps12
    go_wp2_with fail
    go_ret
    exact ⟨rfl, S⟩
set_option maxRecDepth 100000 in
set_option maxHeartbeats 3200000 in
theorem rbRemote_over {W0 w : World} {L : List Asn} {g : Nat} {r : SR} (S : Sat W0 w (blk g (rv r) 74 :: L)) (hr : r.Ok) {fr : Int} (h : 0 ≤ fr ∧ fr < r.cap) (ho : r.sure.over = true) (x : Int) :
    Calls Tryz.prog 12 #[.pointer (some ⟨g, 0, none⟩), .int .i64 fr, .int .u16 x] w fun e w' => e = .returned (.int .i64 12) ∧ Sat W0 w' (blk g (rv r) 74 :: L) := by
  have hA := r_at hr S
  have c1 := hA.cap
  have c46 := hA.so
  rw [ho] at c46
  clear hA
  have hd : decide (fr < 0) = false := decide_eq_false (by omega)
  have hd2 : decide (r.cap ≤ fr) = false := decide_eq_false (by omega)
  go_enter Tryz.func12, Tryz.ntmps12
  go_wp2_with fail
  go_ret
  exact ⟨rfl, S⟩
set_option maxRecDepth 100000 in
set_option maxHeartbeats 3200000 in
theorem rbRemote_far {W0 w : World} {L : List Asn} {g : Nat} {r : SR} (S : Sat W0 w (blk g (rv r) 74 :: L)) (hr : r.Ok) {fr : Int} (h : 0 ≤ fr ∧ fr < r.cap) (ho : r.sure.over = false) {m : Nat} (hm : r.sure.frame = m) (hm6 : m ≤ 600) (hf : (m : Int) + 24 < fr) (x : Int) :
    Calls Tryz.prog 12 #[.pointer (some ⟨g, 0, none⟩), .int .i64 fr, .int .u16 x] w fun e w' => e = .returned (.int .i64 13) ∧ Sat W0 w' (blk g (rv r) 74 :: L) := by
  have hA := r_at hr S
  have c1 := hA.cap
  have c46 := hA.so
  have c28 := hA.sf
  rw [ho] at c46
  rw [hm] at c28
  clear hA hm ho
  have hd : decide (fr < 0) = false := decide_eq_false (by omega)
  have hd2 : decide (r.cap ≤ fr) = false := decide_eq_false (by omega)
  have hw1 : IntKind.i64.wrap ((m : Int) + 16) = (m : Int) + 16 := by rw [IntKind.wrap_i64]; omega
  have hw2 : IntKind.i64.wrap ((m : Int) + 16 + 8) = (m : Int) + 16 + 8 := by rw [IntKind.wrap_i64]; omega
  have hd3 : decide ((m : Int) + 16 + 8 < fr) = true := decide_eq_true (by omega)
  go_enter Tryz.func12, Tryz.ntmps12
  go_wp2_with fail
  go_ret
  exact ⟨rfl, S⟩

set_option maxRecDepth 100000 in
set_option maxHeartbeats 3200000 in
theorem rbRemote_has {W0 w : World} {L : List Asn} {g : Nat} {r : SR} {q : PQ} (S : Sat W0 w (blk g (rv r) 74 :: Qu r.qp q :: L)) (hr : r.Ok) (hq : q.ok) {fr : Int} (h : 0 ≤ fr ∧ fr < r.cap) (ho : r.sure.over = false) {m : Nat} (hm : r.sure.frame = m) (hm6 : m ≤ 600) (hf : fr ≤ (m : Int) + 24) (hme : 0 ≤ r.me ∧ r.me ≤ 1) (x : Int)
    {e1 : Int} (hp : q.put (1 - r.me) fr x = (e1, q)) (he : e1 ≠ 0) :
    Calls Tryz.prog 12 #[.pointer (some ⟨g, 0, none⟩), .int .i64 fr, .int .u16 x] w fun e w' => e = .returned (.int .i64 e1) ∧ Sat W0 w' (blk g (rv r) 74 :: Qu r.qp q :: L) := by
  have hA := r_at hr S
  have c1 := hA.cap
  have c46 := hA.so
  have c28 := hA.sf
  have c3 := hA.me
  have c4 := hA.qp
  rw [ho] at c46
  rw [hm] at c28
  have HP := Lib.hid hp
  clear hA hm ho hp
  have hd : decide (fr < 0) = false := decide_eq_false (by omega)
  have hd2 : decide (r.cap ≤ fr) = false := decide_eq_false (by omega)
  have hw1 : IntKind.i64.wrap ((m : Int) + 16) = (m : Int) + 16 := by rw [IntKind.wrap_i64]; omega
  have hw2 : IntKind.i64.wrap ((m : Int) + 16 + 8) = (m : Int) + 16 + 8 := by rw [IntKind.wrap_i64]; omega
  have hd3 : decide ((m : Int) + 16 + 8 < fr) = false := decide_eq_false (by omega)
  have hwo : IntKind.i64.wrap (1 - r.me) = 1 - r.me := by rw [IntKind.wrap_i64]; omega
  have hee : (e1 != 0) = true := by simpa using he
  go_enter Tryz.func12, Tryz.ntmps12
  go_wp2_with (first
    | (go_at_call 33; refine (qput_any (S.sel [1]) hq (1 - r.me) fr x).mono ?_; unfold Putted; rw [HP.out]; rintro e w2 ⟨rfl, S2⟩))
  go_ret
  exact ⟨rfl, S2.swap⟩

theorem ent_none : Ent 34 := by
  unfold Ent
  intro args w
  simp [go_sem]
theorem ent_back : Ent 52 := by
  unfold Ent
  intro args w
  simp [go_sem]
set_option maxRecDepth 100000 in
theorem rbMkBack_any {W0 w : World} {L : List Asn} (S : Sat W0 w L) (g : Nat) (k : Int) :
    Calls Tryz.prog 35 #[.pointer (some ⟨g, 0, none⟩), .int .i64 k] w fun e w' => ∃ b1 b2, e = .returned (.func (.func 52) #[] #[.pointer (some ⟨b1, 0, none⟩), .pointer (some ⟨b2, 0, none⟩)]) ∧
      Sat W0 w' (blk b1 [.pointer (some ⟨g, 0, none⟩)] 31 :: blk b2 [.int .i64 k] 3 :: L) := by
  have S1 := (S.alloc [.pointer (some ⟨g, 0, none⟩)] 31).alloc [.int .i64 k] 3
  simp only [World.size_alloc] at S1
  go_enter Tryz.func35, Tryz.ntmps35
  go_wp2_with fail
  go_ret
  exact ⟨_, _, rfl, S1.swap⟩

def Remoted (W0 : World) (L : List Asn) (g : Nat) (code : List (Int × Int)) (cap fuel seed : Int) (q : PQ) (r : SR) (n d : Nat) (e : Ending) (w' : World) : Prop :=
  e = .returned (.int .i64 0) ∧ Gone W0 L g code cap fuel seed q r n d (.returned (.tuple #[])) w'
set_option maxRecDepth 100000 in
set_option maxHeartbeats 3200000 in
theorem rbRemote_ahead {W0 w : World} {L : List Asn} {g : Nat} {code : List (Int × Int)} {cap fuel seed : Int} (hk : checkP code cap fuel = 0) (hs : 0 ≤ seed ∧ seed < 4294967296) (hcl : code.length ≤ 1000) {q : PQ} (hq : q.ok)
    {r : SR} (hr : r.Ok) {ring : List VS} {lo hi : Int} {u : List (Int × Int)} {n m d : Nat} (S : Sat W0 w (RA g r q ring lo hi u code ++ L)) {fr : Int} (h : 0 ≤ fr ∧ fr < r.cap) (ho : r.sure.over = false) (hn : r.now.frame = n) (hm : r.sure.frame = m) (hm6 : m ≤ 600) (hf : fr ≤ (m : Int) + 24) (hnf : (n : Int) ≤ fr) (hme : 0 ≤ r.me ∧ r.me ≤ 1) (x : Int)
    {q' : PQ} (hp : q.put (1 - r.me) fr x = (0, q')) (hqo : q'.ok) (hqb : QB q') (hst9 : r.st ≤ 900000000) (hI : SInv code cap fuel seed q' r ring lo hi u n m d) :
    Calls Tryz.prog 12 #[.pointer (some ⟨g, 0, none⟩), .int .i64 fr, .int .u16 x] w (Remoted W0 L g code cap fuel seed q' r n d) := by
  have S0 : Sat W0 w (blk g (rv r) 74 :: Qu r.qp q :: RG r.rp ring lo hi :: sps r.ua r.un r.uc u :: sis r.ca r.cn r.cc code :: L) := S
  have hA := r_at hr S0
  have c1 := hA.cap
  have c46 := hA.so
  have c28 := hA.sf
  have c3 := hA.me
  have c4 := hA.qp
  rw [ho] at c46
  rw [hm] at c28
  have HP := Lib.hid hp
  have HN := Lib.hid hn
  clear hA hm ho hp hn S
  have hd : decide (fr < 0) = false := decide_eq_false (by omega)
  have hd2 : decide (r.cap ≤ fr) = false := decide_eq_false (by omega)
  have hw1 : IntKind.i64.wrap ((m : Int) + 16) = (m : Int) + 16 := by rw [IntKind.wrap_i64]; omega
  have hw2 : IntKind.i64.wrap ((m : Int) + 16 + 8) = (m : Int) + 16 + 8 := by rw [IntKind.wrap_i64]; omega
  have hd3 : decide ((m : Int) + 16 + 8 < fr) = false := decide_eq_false (by omega)
  have hwo : IntKind.i64.wrap (1 - r.me) = 1 - r.me := by rw [IntKind.wrap_i64]; omega
  have hd4 : decide (fr < (n : Int)) = false := decide_eq_false (by omega)
  go_enter Tryz.func12, Tryz.ntmps12
  go_wp2_with (first
    | (go_at_call 33; refine (qput_any (S0.sel [1]) hq (1 - r.me) fr x).mono ?_; unfold Putted; rw [HP.out]; rintro e w2 ⟨rfl, S2⟩; have c8 := (r_at hr (S2.sel [1])).nf; rw [HN.out] at c8; have S3 : Sat W0 w2 (RA g r q' ring lo hi u code ++ L) := S2.swap)
    | (go_at_call 31; refine (rbGoes_any ent_none hk hs hcl hqo hqb hr hI hst9 ((rbNone_any _).mono (by rintro e w' ⟨rfl, rfl⟩; exact ⟨rfl, S3⟩))).mono ?_; unfold Gone; rintro e w5 ⟨rfl, hg⟩; have HG := Lib.hid hg; clear hg))
  go_ret
  exact ⟨rfl, rfl, HG.out⟩

theorem pvAt : ∀ {l : List (Int × Int)} {k : Nat} {x : Int × Int}, l[k]? = some x → (pv l)[k * 2]? = some (.int .u16 x.1) ∧ (pv l)[k * 2 + 1]? = some (.int .u16 x.2)
  | [], k, x, h => by simp at h
  | y :: r, 0, x, h => by simp at h; subst h; exact ⟨rfl, rfl⟩
  | y :: r, k + 1, x, h => by
    have ih := pvAt (l := r) (k := k) (x := x) (by simpa using h)
    rw [show (k + 1) * 2 = k * 2 + 1 + 1 by omega]
    exact ih
set_option maxRecDepth 100000 in
set_option maxHeartbeats 3200000 in
theorem rbRemote_same {W0 w : World} {L : List Asn} {g : Nat} {code : List (Int × Int)} {cap fuel seed : Int} (hk : checkP code cap fuel = 0) (hs : 0 ≤ seed ∧ seed < 4294967296) (hcl : code.length ≤ 1000) {q : PQ} (hq : q.ok)
    {r : SR} (hr : r.Ok) {ring : List VS} {lo hi : Int} {u : List (Int × Int)} {n m d : Nat} (S : Sat W0 w (RA g r q ring lo hi u code ++ L)) {f : Nat} (h : (f : Int) < r.cap) (ho : r.sure.over = false) (hn : r.now.frame = n) (hm : r.sure.frame = m) (hm6 : m ≤ 600) (hf : f ≤ m + 24) (hnf : f < n) {x a b : Int} (hu : u[f]? = some (a, b)) (hme : (r.me = 1 ∧ a = x) ∨ (r.me = 0 ∧ b = x))
    {q' : PQ} (hp : q.put (1 - r.me) f x = (0, q')) (hqo : q'.ok) (hqb : QB q') (hst9 : r.st ≤ 900000000) (hI : SInv code cap fuel seed q' r ring lo hi u n m d) :
    Calls Tryz.prog 12 #[.pointer (some ⟨g, 0, none⟩), .int .i64 f, .int .u16 x] w (Remoted W0 L g code cap fuel seed q' r n d) := by
  have S0 : Sat W0 w (blk g (rv r) 74 :: Qu r.qp q :: RG r.rp ring lo hi :: sps r.ua r.un r.uc u :: sis r.ca r.cn r.cc code :: L) := S
  have hul : u.length = r.un := by
    have h1 := (S0.sel [3]).own_len
    rw [pv_length] at h1
    omega
  have hfu : f < r.un := by rw [← hul]; exact (List.getElem?_eq_some_iff.1 hu).1
  obtain ⟨e1, e2⟩ := pvAt hu
  obtain ⟨ub, uo, hua, -⟩ := (S0.sel [3]).own_rd (f * 2) _ e1
  have HUC := Lib.hid (fun (w' : World) (M : List Asn) (h : Sat W0 w' (sps r.ua r.un r.uc u :: M)) => (by
    have h2 : Rd w' (some ⟨ub, uo, none⟩) (pv u) := by rw [← hua]; exact h.own_rd
    exact ⟨h2.at e1, by have := h2.at e2; rwa [← Nat.add_assoc] at this⟩ : w'.cell? ⟨ub, uo + f * 2, none⟩ = some (.int .u16 a) ∧ w'.cell? ⟨ub, uo + f * 2 + 1, none⟩ = some (.int .u16 b)))
  have hA := r_at hr S0
  have c1 := hA.cap
  have c46 := hA.so
  have c28 := hA.sf
  have c3 := hA.me
  have c4 := hA.qp
  rw [ho] at c46
  rw [hm] at c28
  have HP := Lib.hid hp
  have HN := Lib.hid hn
  have HUA := Lib.hid hua
  have hf0 : (0 : Int) ≤ (f : Int) := by omega
  have hf1 : (f : Int) < (r.un : Int) := by omega
  clear hA hm ho hp hn S hua e1 e2 hu hul hfu
  have hd : decide ((f : Int) < 0) = false := decide_eq_false (by omega)
  have hd2 : decide (r.cap ≤ (f : Int)) = false := decide_eq_false (by omega)
  have hw1 : IntKind.i64.wrap ((m : Int) + 16) = (m : Int) + 16 := by rw [IntKind.wrap_i64]; omega
  have hw2 : IntKind.i64.wrap ((m : Int) + 16 + 8) = (m : Int) + 16 + 8 := by rw [IntKind.wrap_i64]; omega
  have hd3 : decide ((m : Int) + 16 + 8 < (f : Int)) = false := decide_eq_false (by omega)
  have hd4 : decide ((f : Int) < (n : Int)) = true := decide_eq_true (by omega)
  have hd5 : decide (f < n) = true := decide_eq_true hnf
  have hxx : (x != x) = false := by simp
  rcases hme with ⟨hme, rfl⟩ | ⟨hme, rfl⟩
  all_goals
    rw [hme] at c3 HP
    first | rw [show (1 : Int) - 1 = 0 from rfl] at HP | rw [show (1 : Int) - 0 = 1 from rfl] at HP
    clear hme
    go_enter Tryz.func12, Tryz.ntmps12
    go_wp2_with (first
      | (go_at_call 33; refine (qput_any (S0.sel [1]) hq _ f _).mono ?_; unfold Putted; rw [HP.out]; rintro e w2 ⟨rfl, S2⟩; have hA := r_at hr (S2.sel [1]); have c8 := hA.nf; have c6 := hA.us; rw [HN.out] at c8; rw [HUA.out] at c6; clear hA; obtain ⟨u1, u2⟩ := HUC.out _ _ (S2.sel [3]); have S3 : Sat W0 w2 (RA g r q' ring lo hi u code ++ L) := S2.swap)
      | (go_at_call 31; refine (rbGoes_any ent_none hk hs hcl hqo hqb hr hI hst9 ((rbNone_any _).mono (by rintro e w' ⟨rfl, rfl⟩; exact ⟨rfl, S3⟩))).mono ?_; unfold Gone; rintro e w5 ⟨rfl, hg⟩; have HG := Lib.hid hg; clear hg))
    go_ret
    exact ⟨rfl, rfl, HG.out⟩
end Go.Proofs.YtjdeeloemhjbhaaGreat
end

section
namespace Go.Proofs.YtjdeeloemhjbhaaGreat
open Go.RowKit Go.Sep Go.Oct Go.Vm Go.Inp
set_option linter.unusedSimpArgs false

set_option maxRecDepth 100000 in
set_option maxHeartbeats 3200000 in
theorem rbRemote_back {W0 w : World} {L : List Asn} {g : Nat} {code : List (Int × Int)} {cap fuel seed : Int} (hk : checkP code cap fuel = 0) (hs : 0 ≤ seed ∧ seed < 4294967296) (hcl : code.length ≤ 1000) {q : PQ} (hq : q.ok)
    {r : SR} (hr : r.Ok) {ring : List VS} {lo hi : Int} {u : List (Int × Int)} {n m d : Nat} (S : Sat W0 w (RA g r q ring lo hi u code ++ L)) {f : Nat} (h : (f : Int) < r.cap) (ho : r.sure.over = false) (hn : r.now.frame = n) (hm : r.sure.frame = m) (hm6 : m ≤ 600) (hf : f ≤ m + 24) (hnf : f < n) {x a b : Int} (hu : u[f]? = some (a, b)) (hme : (r.me = 1 ∧ a ≠ x) ∨ (r.me = 0 ∧ b ≠ x)) (hrl : ring.length = 16) (hro : ∀ s ∈ ring, s.Ok) {t : VS} (ht : ring[f % 16]? = some t) (htp : isP t = true) (htf : t.frame = f) (hlo : 0 ≤ lo ∧ lo ≤ f) (hhi : (f : Int) ≤ hi ∧ hi ≤ 10000) (hwr : 0 ≤ r.wr ∧ r.wr ≤ 1000000000)
    {q' : PQ} (hp : q.put (1 - r.me) f x = (0, q')) (hqo : q'.ok) (hqb : QB q') (hst9 : r.st ≤ 900000000) (hI : SInv code cap fuel seed q' { r with wr := r.wr + 1, now := t } (ring.set (f % 16) t) (ringLo lo hi f) f u f m d) :
    Calls Tryz.prog 12 #[.pointer (some ⟨g, 0, none⟩), .int .i64 f, .int .u16 x] w (Remoted W0 L g code cap fuel seed q' { r with wr := r.wr + 1, now := t } f d) := by
  have S0 : Sat W0 w (blk g (rv r) 74 :: Qu r.qp q :: RG r.rp ring lo hi :: sps r.ua r.un r.uc u :: sis r.ca r.cn r.cc code :: L) := S
  have hul : u.length = r.un := by
    have h1 := (S0.sel [3]).own_len
    rw [pv_length] at h1
    omega
  have hfu : f < r.un := by rw [← hul]; exact (List.getElem?_eq_some_iff.1 hu).1
  obtain ⟨e1, e2⟩ := pvAt hu
  obtain ⟨ub, uo, hua, -⟩ := (S0.sel [3]).own_rd (f * 2) _ e1
  have HUC := Lib.hid (fun (w' : World) (M : List Asn) (h : Sat W0 w' (sps r.ua r.un r.uc u :: M)) => (by
    have h2 : Rd w' (some ⟨ub, uo, none⟩) (pv u) := by rw [← hua]; exact h.own_rd
    exact ⟨h2.at e1, by have := h2.at e2; rwa [← Nat.add_assoc] at this⟩ : w'.cell? ⟨ub, uo + f * 2, none⟩ = some (.int .u16 a) ∧ w'.cell? ⟨ub, uo + f * 2 + 1, none⟩ = some (.int .u16 b)))
  have hA := r_at hr S0
  have c1 := hA.cap
  have c46 := hA.so
  have c28 := hA.sf
  have c3 := hA.me
  have c4 := hA.qp
  rw [ho] at c46
  rw [hm] at c28
  have HP := Lib.hid hp
  have HN := Lib.hid hn
  have HUA := Lib.hid hua
  have hf0 : (0 : Int) ≤ (f : Int) := by omega
  have hf1 : (f : Int) < (r.un : Int) := by omega
  clear hA hm ho hp hn S hua e1 e2 hu hul hfu
  have hd : decide ((f : Int) < 0) = false := decide_eq_false (by omega)
  have hd2 : decide (r.cap ≤ (f : Int)) = false := decide_eq_false (by omega)
  have hw1 : IntKind.i64.wrap ((m : Int) + 16) = (m : Int) + 16 := by rw [IntKind.wrap_i64]; omega
  have hw2 : IntKind.i64.wrap ((m : Int) + 16 + 8) = (m : Int) + 16 + 8 := by rw [IntKind.wrap_i64]; omega
  have hd3 : decide ((m : Int) + 16 + 8 < (f : Int)) = false := decide_eq_false (by omega)
  have hd4 : decide ((f : Int) < (n : Int)) = true := decide_eq_true (by omega)
  have hd5 : decide (f < n) = true := decide_eq_true hnf
  have hww : IntKind.i64.wrap (r.wr + 1) = r.wr + 1 := by rw [IntKind.wrap_i64]; omega
  have hto := hro t (List.mem_of_getElem? ht)
  have HT := Lib.hid (⟨hro, ht, htf⟩ : _ ∧ _ ∧ _)
  clear hro ht htf
  rcases hme with ⟨hme, hax⟩ | ⟨hme, hax⟩
  have hxx : (a != x) = true := by simpa using hax
  rotate_left
  have hxx : (b != x) = true := by simpa using hax
  rotate_left
  all_goals
    rw [hme] at c3 HP
    first | rw [show (1 : Int) - 1 = 0 from rfl] at HP | rw [show (1 : Int) - 0 = 1 from rfl] at HP
    clear hme hax
    go_enter Tryz.func12, Tryz.ntmps12
    go_wp2_with (first
      | (go_at_call 33; refine (qput_any (S0.sel [1]) hq _ f _).mono ?_; unfold Putted; rw [HP.out]; rintro e w2 ⟨rfl, S2⟩; have hA := r_at hr (S2.sel [1]); have c8 := hA.nf; have c6 := hA.us; rw [HN.out] at c8; rw [HUA.out] at c6; clear hA; obtain ⟨u1, u2⟩ := HUC.out _ _ (S2.sel [3]); have c49 := (r_at hr (S2.sel [1])).wr; have z49 := (r_at hr (S2.sel [1])).fz 49; have S3 : Sat W0 (w2.setCell ⟨g, 49, none⟩ (.int .i64 (r.wr + 1))) (blk g (rv { r with wr := r.wr + 1 }) 74 :: Qu r.qp q' :: RG r.rp ring lo hi :: sps r.ua r.un r.uc u :: sis r.ca r.cn r.cc code :: L) := by
          rw [← rv_setWrong hr]
          exact (S2.setCell (k := 49) (v := .int .i64 (r.wr + 1)) 1 rfl).swap)
      | (go_at_call 35; refine (rbMkBack_any S3 g f).mono ?_; rintro e w3 ⟨b1, b2, rfl, S4⟩)
      | (go_at_call 31; refine (rbGoes_any (L := blk b1 [.pointer (some ⟨g, 0, none⟩)] 31 :: blk b2 [.int .i64 f] 3 :: L) ent_back hk hs hcl hqo hqb (r := { r with wr := r.wr + 1, now := t }) ⟨hto, hr.sure⟩ hI hst9 ((rbBack_any (r := { r with wr := r.wr + 1 }) S4 ⟨hr.now, hr.sure⟩ hrl HT.out.1 HT.out.2.1 htp HT.out.2.2 hlo hhi).mono (by rintro e w' ⟨rfl, h⟩; exact ⟨rfl, h.sel [2, 2, 2, 2, 2]⟩))).mono ?_; unfold Gone; rintro e w5 ⟨rfl, r2, ring2, lo2, hi2, u2, n2, m2, j1, j2, j3, j4, j5, j6, j7, j8, S5⟩; have J := Lib.hid (⟨j1, j2, j3, j4, j5, j6, j7, j8⟩ : _ ∧ _ ∧ _ ∧ _ ∧ _ ∧ _ ∧ _ ∧ _); clear j1 j2 j3 j4 j5 j6 j7 j8))
    go_ret
    obtain ⟨j1, j2, j3, j4, j5, j6, j7, j8⟩ := J.out
    exact ⟨rfl, rfl, r2, ring2, lo2, hi2, u2, n2, m2, j1, j2, j3, j4, j5, j6, j7, j8, (S5.sel [5, 5]).tail.tail⟩
end Go.Proofs.YtjdeeloemhjbhaaGreat
end
