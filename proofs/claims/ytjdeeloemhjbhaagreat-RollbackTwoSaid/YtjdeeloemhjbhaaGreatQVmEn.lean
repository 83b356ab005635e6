/-
  vm: a state as bytes: the walk.
-/
import Derived.Test.YtjdeeloemhjbhaaGreatQVmY
import Derived.Test.YtjdeeloemhjbhaaGreatQVmEp
import Derived.Test.YtjdeeloemhjbhaaGreatQIdx

namespace Go.Proofs.YtjdeeloemhjbhaaGreat
open Go.RowKit Go.Sep Go.Oct Go.Vm
set_option linter.unusedSimpArgs false

theorem vwriter_new {W0 w : World} {L : List Asn} (S : Sat W0 w L) : Sat W0 (w.alloc (.cells #[.slice none 0 0] 130)) (Wr w.heap.size [] :: L) :=
  Wr_open.2 ⟨none, 0, (Sat.own_none.2 ⟨rfl, rfl, rfl, S.alloc [.slice none 0 0] 130⟩).sel [1]⟩
def GivesE (W0 : World) (L : List Asn) (bs : List Int) (e : Ending) (w' : World) : Prop := ∃ ao cap, e = .returned (.slice ao bs.length cap) ∧ Sat W0 w' (sbs ao bs.length cap bs :: L)

set_option maxRecDepth 100000 in
set_option maxHeartbeats 1600000 in
theorem vEncode_any {W0 w : World} {L : List Asn} (S : Sat W0 w L) {s : VS} (hs : s.Ok) :
    Calls Tryz.prog 47 #[.agg (svals s).toArray] w (GivesE W0 L (encP s)) := by
  have S1 := S.alloc (svals s) 46
  have S2 := vwriter_new S1
  simp only [World.size_alloc] at S2
  have hA := st_at hs.len (S2.sel [1])
  have c0 := hA.frame
  have hfr := hs.frame
  clear hA
  have hnl := num_length s.frame
  have HCS : Hid ((s.cells.map (Value.int .i32)).length = 16) := by show _ = _; rw [List.length_map]; exact hs.len
  go_enter Tryz.func47, Tryz.ntmps47
  go_wp2_with (first
    | (refine wpList_load_part (cs := s.cells.map (Value.int .i32)) rfl 44 _ rfl (n := 16) rfl (fun j hj => by rw [(st_at hs.len (S3.sel [1])).cells j hj, List.getElem?_map, List.getElem?_eq_getElem (by rw [hs.len]; exact hj)]; rfl) HCS.out Tryz.underlying44 rfl (by kernel_rfl) ?_)
    | (go_at_call 64; refine (wNum_any S2 s.frame hfr.1 hfr.2 (by simp)).mono ?_; rintro e w3 ⟨rfl, S3⟩))
  have S4 : Sat W0 w3 (Wr (w.heap.size + 1) (num s.frame ++ foursP (s.cells.take 0)) :: blk w.heap.size (svals s) 46 :: L) := by
    rw [List.take_zero]
    show Sat W0 w3 (Wr (w.heap.size + 1) (num s.frame ++ []) :: _)
    rw [List.append_nil]
    exact S3
  generalize w.heap.size + 1 = p at S4 ⊢
  generalize w.heap.size = q at S4 ⊢
  clear S1 S2 S3 c0
  go_loopw [12] (fun i wr => ∃ k : Nat, k ≤ 16 ∧ i = .int .i64 k ∧ Sat W0 wr (Wr p (num s.frame ++ foursP (s.cells.take k)) :: blk q (svals s) 46 :: L)) (fun i _ => 16 - (intOf i).toNat)
  case atStart => exact ⟨0, by omega, rfl, S4⟩
  case round =>
    clear S4
    obtain ⟨k, hk, rfl, S5⟩ := hrel
    have k0 : (0 : Int) ≤ (k : Int) := Int.natCast_nonneg _
    have hln : (num s.frame ++ foursP (s.cells.take k)).length ≤ 100 := by rw [List.length_append, foursP_length, List.length_take, hs.len]; omega
    by_cases hlt : k < 16
    · have k1 : (k : Int) < 16 := by omega
      obtain ⟨v, hv⟩ : ∃ v, s.cells[k]? = some v := ⟨s.cells[k]'(by rw [hs.len]; exact hlt), List.getElem?_eq_getElem _⟩
      have hvb := hs.cells v (List.mem_of_getElem? hv)
      have hai : (s.cells.map (Value.int .i32)).toArray[k]? = some (.int .i32 v) := by rw [List.getElem?_toArray, List.getElem?_map, hv]; rfl
      have hinf0 : (Tryz.prog.info? 21).isSome = true := by kernel_rfl
      obtain ⟨inf, hinf⟩ := Option.isSome_iff_exists.1 hinf0
      clear hinf0
      have hix := fun w => run_index_array (P := Tryz.prog) (t := 44) (e := 21) (n := 16) (cs := (s.cells.map (Value.int .i32)).toArray) (i := k) (v := .int .i32 v) w (by kernel_rfl) hlt hinf (by kernel_rfl) (by kernel_rfl) hai
      have hw3 : IntKind.i64.wrap ((k : Int) + 1) = (k : Int) + 1 := by rw [IntKind.wrap_i64]; omega
      have hwv : IntKind.u32.wrap v = v % 4294967296 := by rw [IntKind.wrap_u32]
      have HTK : Hid (foursP (s.cells.take (k + 1)) = foursP (s.cells.take k) ++ fourP (v % 4294967296)) := by
        show _ = _
        rw [List.take_add_one, hv]
        exact foursP_snoc _ _
      clear hv hai hinf
      go_wp2_with (first
        | (go_at_call 65; refine (wFour_any S5 (v % 4294967296) (by omega) (by omega) (by omega)).mono ?_; rintro e w6 ⟨rfl, S6⟩))
      refine ⟨⟨k + 1, by omega, by go_num, ?_⟩, by simp [intOf]; omega⟩
      rw [HTK.out, ← List.append_assoc]
      exact S6
    · obtain rfl : k = 16 := by omega
      have hA := st_at hs.len (S5.sel [1])
      have c17 := hA.seed
      clear hA
      have hsd := hs.seed
      rw [List.take_of_length_le (Nat.le_of_eq hs.len)] at S5 hln
      have hww : IntKind.u8.wrap s.winner = s.winner % 256 := by rw [IntKind.wrap_u8]
      cases hov : s.over
      all_goals
        go_wp2_with (first
          | (go_at_call 65; refine (wFour_any S5 s.seed hsd.1 hsd.2 (by omega)).mono ?_; rintro e w6 ⟨rfl, S6⟩; have hA := st_at hs.len (S6.sel [1]); have c18 := hA.over; have c19 := hA.winner; rw [hov] at c18; clear hA)
          | (go_at_call 66; refine (wByte_any S7 (s.winner % 256) (by simp only [List.length_append, List.length_cons, List.length_nil] at hln ⊢; omega)).mono ?_; rintro e w8 ⟨rfl, S8⟩; have S8b : Sat W0 w8 (Wr p (encP s) :: blk q (svals s) 46 :: L) := (by unfold encP; rw [hov]; exact S8))
          | (go_at_call 66; refine (wByte_any S6 _ (by simp only [List.length_append, List.length_cons, List.length_nil] at hln ⊢; omega)).mono ?_; rintro e w7 ⟨rfl, S7⟩; have hA := st_at hs.len (S7.sel [1]); have c19 := hA.winner; clear hA)
          | (go_at_call 67; refine (out_any S8b (by unfold encP; simp only [List.length_append, List.length_cons, List.length_nil] at hln ⊢; have : (fourP s.seed).length = 4 := rfl; omega)).mono ?_; rintro e w9 ⟨ao, cap, rfl, S9⟩))
        go_ret
        exact ⟨ao, cap, rfl, (S9.sel [1, 1]).tail.tail⟩
end Go.Proofs.YtjdeeloemhjbhaaGreat
