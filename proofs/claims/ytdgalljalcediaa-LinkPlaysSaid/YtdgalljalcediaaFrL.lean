/-
  frame, plain: a record is read as it was laid; what is read was laid so; a changed byte is seen.
-/
import Derived.Test.YtdgalljalcediaaFrP
namespace Go.Oct
open Go.RowKit

theorem four_cases {a : List Int} (h : a.length = 4) : ∃ x y z t, a = [x, y, z, t] := by
  match a, h with
  | [x, y, z, t], _ => exact ⟨x, y, z, t, rfl⟩
theorem le_four_inj {a b : List Int} (ha : Bytes a) (hb : Bytes b) (la : a.length = 4) (lb : b.length = 4) (h : le a = le b) : a = b := by
  obtain ⟨x, y, z, t, rfl⟩ := four_cases la
  obtain ⟨x', y', z', t', rfl⟩ := four_cases lb
  rw [← four4_le ha, ← four4_le hb, h]
theorem four4_le' {a : List Int} (ha : Bytes a) (la : a.length = 4) : four4 (le a) = a := by
  obtain ⟨x, y, z, t, rfl⟩ := four_cases la
  exact four4_le ha
theorem crcB_length (x : List Int) : (crcB x).length = 4 := rfl
theorem recP_eq (p r : List Int) : recP p ++ r = (headP p.length ++ p) ++ (crcB (headP p.length ++ p) ++ r) := by unfold recP; simp
theorem rec_take4 (p r : List Int) : (recP p ++ r).take 4 = four4 p.length := rfl
theorem rec_take8 (p r : List Int) : (recP p ++ r).take 8 = headP p.length := rfl
theorem rec_drop8 (p r : List Int) : (recP p ++ r).drop 8 = p ++ (crcB (headP p.length ++ p) ++ r) := by
  rw [recP_eq, List.append_assoc]
  rfl
theorem body_length (p : List Int) : (headP p.length ++ p).length = 8 + p.length := by rw [List.length_append, headP_length]
theorem rec_take (p r : List Int) : (recP p ++ r).take (8 + p.length) = headP p.length ++ p := by
  rw [recP_eq]; exact List.take_left' (body_length p)
theorem rec_drop (p r : List Int) : (recP p ++ r).drop (8 + p.length) = crcB (headP p.length ++ p) ++ r := by
  rw [recP_eq]; exact List.drop_left' (body_length p)
theorem decF_rec {p r : List Int} (hl : p.length ≤ 65536) : decF (recP p ++ r) = (p, 12 + (p.length : Int), 0) := by
  have hlen : (recP p ++ r).length = p.length + 12 + r.length := by rw [List.length_append, recP_length]
  have h4 : le ((recP p ++ r).take 4) = p.length := by rw [rec_take4]; exact le_four4 (by omega)
  unfold decF
  rw [h4, rec_take8, if_neg (by omega), if_neg (by simp), if_neg (by omega), Int.toNat_natCast, if_neg (by omega), rec_drop, rec_take, rec_drop8]
  rw [show (crcB (headP p.length ++ p) ++ r).take 4 = crcB (headP p.length ++ p) from rfl]
  rw [if_neg (by unfold crcB; rw [le_four4 (crc_bd _).1]; simp)]
  rw [List.take_left' rfl]
theorem decF_back {bs p : List Int} {q : Int} (hB : Bytes bs) (h : decF bs = (p, q, 0)) : p.length ≤ 65536 ∧ q = 12 + (p.length : Int) ∧ ∃ r, bs = recP p ++ r := by
  have h0 := le_lo (hB.take 4)
  obtain ⟨n, hn⟩ : ∃ n : Nat, le (bs.take 4) = (n : Int) := ⟨(le (bs.take 4)).toNat, by omega⟩
  unfold decF at h
  rw [hn, Int.toNat_natCast] at h
  split at h
  · cases h
  rename_i h8
  split at h
  · cases h
  rename_i hh
  split at h
  · cases h
  rename_i h65
  split at h
  · cases h
  rename_i hl
  split at h
  · cases h
  rename_i hc
  cases h
  have hpl : ((bs.drop 8).take n).length = n := by rw [List.length_take, List.length_drop]; omega
  rw [hpl]
  refine ⟨by omega, by omega, bs.drop (12 + n), ?_⟩
  have hh' : bs.take 8 = headP n := Classical.byContradiction hh
  have hc' : le ((bs.drop (8 + n)).take 4) = (crc (bs.take (8 + n)) : Int) := Classical.byContradiction hc
  have ht : bs.take (8 + n) = headP n ++ (bs.drop 8).take n := by rw [List.take_add, hh']
  have hd4 : ((bs.drop (8 + n)).take 4) = crcB (bs.take (8 + n)) := by
    unfold crcB
    rw [← hc', four4_le' ((hB.drop _).take _) (by rw [List.length_take, List.length_drop]; omega)]
  unfold recP
  rw [hpl, ← ht, ← hd4, List.append_assoc]
  have e4 : bs.drop (12 + n) = (bs.drop (8 + n)).drop 4 := by rw [List.drop_drop]; congr 1; omega
  rw [e4, List.take_append_drop, List.take_append_drop]

theorem bytes_set {bs : List Int} (hB : Bytes bs) {k : Nat} {c : Int} (hc : 0 ≤ c ∧ c < 256) : Bytes (bs.set k c) := by
  intro x hx
  rcases List.mem_or_eq_of_mem_set hx with h | rfl
  · exact hB x h
  · exact hc
/-- a record cut short is no record -/
theorem decF_cut {p : List Int} (hl : p.length ≤ 65536) {k : Nat} (hk : k < (recP p).length) : (decF ((recP p).take k)).2.2 ≠ 0 := by
  rw [recP_length] at hk
  unfold decF
  have hlen : ((recP p).take k).length = k := by rw [List.length_take, recP_length]; omega
  by_cases h8 : k < 8
  · rw [if_pos (by omega)]; decide
  have t4 : ((recP p).take k).take 4 = four4 p.length := by
    rw [List.take_take, show min 4 k = 4 by omega]; have := rec_take4 p []; rwa [List.append_nil] at this
  have h4 : le (((recP p).take k).take 4) = p.length := by rw [t4]; exact le_four4 (by omega)
  rw [h4, if_neg (by omega)]
  split
  · simp
  rw [if_neg (by omega), Int.toNat_natCast, if_pos (by omega)]
  simp
/-- another byte in one place is seen -/
theorem decF_set {p : List Int} (hp : Bytes p) (hl : p.length ≤ 65536) {k : Nat} (hk : k < (recP p).length) {c : Int} (hc : 0 ≤ c ∧ c < 256) (hne : (recP p)[k]? ≠ some c) : (decF ((recP p).set k c)).2.2 ≠ 0 := by
  intro h0
  obtain ⟨q, l, e, hd⟩ : ∃ q l e, decF ((recP p).set k c) = (q, l, e) := ⟨_, _, _, rfl⟩
  rw [hd] at h0
  simp only at h0
  subst h0
  have hB := recP_bytes hp (by omega)
  obtain ⟨hq, _, r, hr⟩ := decF_back (bytes_set hB hc) hd
  have hlen : (recP q ++ r).length = (recP p).length := by rw [← hr, List.length_set]
  have key : ∀ (xs ys : List Int) (i : Nat), i < xs.length → Bytes xs → crcB (xs.set i c) = crcB xs → xs[i]? = some c := by
    intro xs _ i hi hx hcr
    refine Classical.byContradiction fun hne => crc_set hx hi hc hne ?_
    have := congrArg le hcr
    unfold crcB at this
    rw [le_four4 (crc_bd _).1, le_four4 (crc_bd _).1] at this
    exact_mod_cast this
  have t8 : ((recP p).set k c).take 8 = headP q.length := by rw [hr]; exact rec_take8 q r
  have p8 : (recP p).take 8 = headP p.length := by have := rec_take8 p []; rwa [List.append_nil] at this
  rw [List.take_set, p8] at t8
  have hB4 : Bytes (four4 (p.length : Int)) := four4_bytes (by omega) (by omega)
  have sset : ∀ (u v : List Int) (i : Nat), (u ++ v).set i c = if i < u.length then u.set i c ++ v else u ++ v.set (i - u.length) c := fun u v i => List.set_append
  by_cases k8 : k < 8
  · -- in the head
    have e1 : (headP p.length).set k c = (if k < 4 then (four4 p.length).set k c ++ crcB (four4 p.length) else four4 p.length ++ (crcB (four4 p.length)).set (k - 4) c) := sset _ _ _
    rw [e1] at t8
    have pk : (recP p)[k]? = (headP p.length)[k]? := by rw [← p8, List.getElem?_take, if_pos k8]
    rw [pk] at hne
    unfold headP at t8 hne
    by_cases k4 : k < 4
    · rw [if_pos k4] at t8
      obtain ⟨a1, a2⟩ := List.append_inj t8 (by rw [List.length_set]; rfl)
      rw [← a1] at a2
      have := key (four4 p.length) [] k (by exact k4) hB4 a2.symm
      rw [List.getElem?_append_left (by exact k4)] at hne
      exact hne this
    · rw [if_neg k4] at t8
      obtain ⟨a1, a2⟩ := List.append_inj t8 rfl
      rw [← a1] at a2
      rw [List.getElem?_append_right (by rw [four4_length]; omega), four4_length] at hne
      apply hne
      rw [← a2, List.getElem?_set_self (by rw [crcB_length]; omega)]
  · -- behind it
    rw [List.set_eq_of_length_le (by rw [headP_length]; omega)] at t8
    have hn : p.length = q.length := by
      have a1 := (List.append_inj (show four4 (p.length : Int) ++ crcB (four4 p.length) = four4 (q.length : Int) ++ crcB (four4 q.length) from t8) rfl).1
      have := congrArg le a1
      rw [le_four4 (by omega), le_four4 (by omega)] at this
      omega
    have hr0 : r = [] := by
      rw [List.length_append, recP_length, recP_length] at hlen
      exact List.length_eq_zero_iff.1 (by omega)
    subst hr0
    rw [List.append_nil] at hr
    have eP : recP p = (headP p.length ++ p) ++ crcB (headP p.length ++ p) := rfl
    have eQ : recP q = (headP p.length ++ q) ++ crcB (headP p.length ++ q) := by rw [hn]; rfl
    rw [eP, sset, eQ, body_length] at hr
    rw [eP] at hne
    by_cases kb : k < 8 + p.length
    · rw [if_pos kb] at hr
      obtain ⟨a1, a2⟩ := List.append_inj hr (by rw [List.length_set, body_length, List.length_append, headP_length, hn])
      rw [← a1] at a2
      have := key (headP p.length ++ p) [] k (by rw [body_length]; exact kb) ((headP_bytes (by omega) (by omega)).append hp) a2.symm
      rw [List.getElem?_append_left (by rw [body_length]; exact kb)] at hne
      exact hne this
    · rw [if_neg kb] at hr
      obtain ⟨a1, a2⟩ := List.append_inj hr (by rw [body_length, List.length_append, headP_length, hn])
      rw [← a1] at a2
      rw [List.getElem?_append_right (by rw [body_length]; omega), body_length] at hne
      apply hne
      rw [← a2, List.getElem?_set_self (by rw [recP_length] at hk; rw [crcB_length]; omega)]
end Go.Oct
