/-
  octet: a digest taken.
-/
import Derived.Test.YtbkieoblhacngaaOct4
import Derived.Deep.RegionWith
import Derived.Deep.RegionLaw
namespace Go.Proofs.Ytbkieoblhacngaa
open Go.RowKit Go.Sep Go.Oct

theorem Try.sizeB : (Try.prog.info? 5).map (·.size) = some 1 := by kernel_rfl
theorem Try.sizeH : (Try.prog.info? 42).map (·.size) = some 32 := by kernel_rfl
def zeros32 : List Int := List.replicate 32 0
theorem zeros32_bv : bv zeros32 = [.int .u8 0, .int .u8 0, .int .u8 0, .int .u8 0, .int .u8 0, .int .u8 0, .int .u8 0, .int .u8 0, .int .u8 0, .int .u8 0, .int .u8 0, .int .u8 0, .int .u8 0, .int .u8 0, .int .u8 0, .int .u8 0,
  .int .u8 0, .int .u8 0, .int .u8 0, .int .u8 0, .int .u8 0, .int .u8 0, .int .u8 0, .int .u8 0, .int .u8 0, .int .u8 0, .int .u8 0, .int .u8 0, .int .u8 0, .int .u8 0, .int .u8 0, .int .u8 0] := rfl

theorem zeros32_length : (bv zeros32).length = 32 := by simp [bv, zeros32]

def Hashed (W0 : World) (L : List Asn) (p : Nat) (bs : List Int) (e0 : Int) (e : Ending) (w' : World) : Prop :=
  e = .returned (.agg (bv (rdHash bs e0).1).toArray) ∧ Sat W0 w' (Rr p (rdHash bs e0).2.1 (rdHash bs e0).2.2 :: L)

set_option maxRecDepth 100000 in
theorem rHash_any {W0 w : World} {L : List Asn} {p : Nat} {bs : List Int} {e0 : Int} (S : Sat W0 w (Rr p bs e0 :: L)) :
    Calls Try.prog 29 #[.pointer (some ⟨p, 0, none⟩)] w (Hashed W0 L p bs e0) := by
  have S1 : Sat W0 (w.alloc (.cells (bv zeros32).toArray 42)) (Rr p bs e0 :: blk w.heap.size (bv zeros32) 42 :: L) := (S.alloc (bv zeros32) _).swap
  go_enter Try.func29, Try.ntmps29
  go_wp2_with fail
  go_region_law (first | (refine step_copy_sat (dLen := 32) (dCap := 32) (o := 0) rfl _ _ _ _ 5 rfl Try.underlying22 Try.sizeB S2.swap rfl rfl hR (by rw [bv_length]; exact (Nat.min_eq_left hl).symm) (by rw [bv_length, zeros32_length]; omega) (bv_one _) ?_; intro w2 S3) | (go_simp; go_at_call 37; refine (take_any (W0 := W0) S1.drew 32 (by omega)).mono ?_; rintro e w1 ⟨ao, c, xs, HX, rfl, hR, h0, S2⟩; have hl : xs.length ≤ 32 := (by rw [HX.out]; exact tk_length _ _ _)))
  have e1 : List.take 0 (bv zeros32) ++ bv xs ++ List.drop (0 + (bv xs).length) (bv zeros32) = bv (xs ++ List.replicate (32 - xs.length) 0) := by
    rw [List.take_zero, List.nil_append, Nat.zero_add, bv_length, bv_append]
    simp only [bv, zeros32, List.map_replicate, List.drop_replicate]
  rw [e1] at S3
  have hl2 : (bv (xs ++ List.replicate (32 - xs.length) 0)).length = 32 := by rw [bv_length]; simp; omega
  have hres : (rdHash bs e0).1 = xs ++ List.replicate (32 - xs.length) 0 := by unfold rdHash; rw [← HX.out]
  have HR := Lib.hid hres
  clear hres e1
  have h1 := bv_one (xs ++ List.replicate (32 - xs.length) 0)
  have hfin : Hid (bv (rdHash bs e0).1 = bv (xs ++ List.replicate (32 - xs.length) 0)) := by show _ = _; rw [HR.out]
  clear HR
  generalize bv (xs ++ List.replicate (32 - xs.length) 0) = hs at *
  go_wp2_with (first
    | (refine wpList_load_part rfl 42 _ rfl (n := 32) rfl (S3.part 0 32) (by simp [hl2]) Try.underlying42 rfl Try.sizeH ?_; rw [List.drop_zero, List.take_of_length_le (by omega)])
    | (refine wpList_store_sat rfl 42 _ _ rfl S3 rfl rfl hl2 (by omega) Try.sizeH h1 ?_; intro w3 S4))
  rw [List.take_zero, List.nil_append, Nat.zero_add, List.drop_eq_nil_of_le (by omega), List.append_nil] at S4
  refine bodyPost_ret (results_cell_sat rfl _ S4 rfl Try.underlying42 rfl (by rw [hl2]; exact Try.sizeH)) rfl ⟨?_, S4.tail⟩
  rw [hfin.out]
end Go.Proofs.Ytbkieoblhacngaa
