/-
  inputs: the law's own 'known', over the program's Queue.
-/
import Derived.Test.YtbjhhkhhfjmnjaaInp5
namespace Go.Proofs.Ytbjhhkhhfjmnjaa
open Go.RowKit Go.Sep Go.Inp

def kq1 : PQ := ((PQ.new 20).put 0 0 5).2
def kq2 : PQ := (kq1.put 0 2 7).2
theorem kq_1 : Hid (((PQ.new 20).put 0 0 5).1 = 0) := by show _ = _; decide +kernel
theorem kq_2 : Hid ((kq1.put 0 2 7).1 = 0) := by show _ = _; decide +kernel
theorem kq_3 : Hid (kq2.get 0 1 = (5, false)) := by show _ = _; decide +kernel
theorem kq_4 : Hid (kq2.get 0 9 = (7, false)) := by show _ = _; decide +kernel
theorem kq_5 : Hid (kq2.known 0 = 1) := by show _ = _; decide +kernel
theorem kq1_ok : kq1.ok := PQ.put_ok (PQ.new_ok (by omega)) _ _ _
theorem kq2_ok : kq2.ok := PQ.put_ok kq1_ok _ _ _

set_option maxRecDepth 100000 in
theorem known12_any {W0 w : World} {L : List Asn} (S : Sat W0 w L) :
    Calls Try.prog 7 #[] w fun e w' => e = .returned (.bool true) ∧ Sat W0 w' L := by
  go_enter Try.func7, Try.ntmps7
  go_wp2_with (first
    | (go_at_call 8; refine (new_any S 20 (by omega) (by omega)).mono ?_; rintro e w1 ⟨p, rfl, S1⟩)
    | (go_at_call_of 9 (Value.int .u16 7); refine (put_any S2 kq1_ok 0 2 7).mono ?_; rintro e w3 ⟨rfl, S3⟩; change Sat _ _ (Qu _ kq2 :: _) at S3; rw [kq_2.out])
    | (go_at_call_of 9 (Value.int .u16 5); refine (put_any S1 (PQ.new_ok (by omega)) 0 0 5).mono ?_; rintro e w2 ⟨rfl, S2⟩; change Sat _ _ (Qu _ kq1 :: _) at S2; rw [kq_1.out])
    | (go_at_call_of 10 (Value.int .i64 9); refine (get_any S3 kq2_ok 0 9).mono ?_; rintro e w4 ⟨rfl, rfl⟩; rw [kq_4.out])
    | (go_at_call_of 10 (Value.int .i64 1); refine (get_any S3 kq2_ok 0 1).mono ?_; rintro e w4 ⟨rfl, rfl⟩; rw [kq_3.out])
    | (go_at_call 14; refine (known_any S3 0).mono ?_; rintro e w5 ⟨rfl, rfl⟩; rw [kq_5.out]))
  go_ret
  exact ⟨rfl, S3.tail⟩
end Go.Proofs.Ytbjhhkhhfjmnjaa
