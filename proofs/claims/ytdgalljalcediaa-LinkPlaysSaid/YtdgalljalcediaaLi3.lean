/-
  link: New, Left, Stats.
-/
import Derived.Test.YtdgalljalcediaaLi2
namespace Go.Proofs.Ytdgalljalcediaa
open Go.RowKit Go.Sep Go.Oct
set_option linter.unusedSimpArgs false

theorem PL_new {W0 w : World} {L : List Asn} {g : Nat} {id : Int} (S : Sat W0 w (blk g [.int .i64 id, .slice none 0 0, .int .i64 1, .int .i64 0, .int .i64 0, .int .i64 0, .int .i64 0, .int .i64 0] 71 :: L)) : Sat W0 w (PL g (LS.new id) :: L) :=
  PL_open.2 ⟨none, 0, (brs_none S).swap⟩
set_option maxRecDepth 100000 in
theorem new_any {W0 w : World} {L : List Asn} (S : Sat W0 w L) (id : Int) :
    Calls Try.prog 13 #[.int .i64 id] w fun e w' => ∃ g, e = .returned (.pointer (some ⟨g, 0, none⟩)) ∧ Sat W0 w' (PL g (LS.new id) :: L) := by
  have S1 := S.alloc [.int .i64 id, .slice none 0 0, .int .i64 1, .int .i64 0, .int .i64 0, .int .i64 0, .int .i64 0, .int .i64 0] 71
  go_enter Try.func13, Try.ntmps13
  go_wp2_with fail
  go_ret
  exact ⟨_, rfl, PL_new S1⟩
set_option maxRecDepth 100000 in
theorem left_any {W0 w : World} {L : List Asn} {g : Nat} {s : LS} (S : Sat W0 w (PL g s :: L)) :
    Calls Try.prog 16 #[.pointer (some ⟨g, 0, none⟩)] w fun e w' => e = .returned (.int .i64 s.rows.length) ∧ Sat W0 w' (PL g s :: L) := by
  obtain ⟨ra, rc, S0⟩ := PL_open.1 S
  have S1 : Sat W0 w (blk g [.int .i64 s.id, .slice ra s.rows.length rc, .int .i64 s.first, .int .i64 (s.under : Int), .int .i64 s.came, .int .i64 s.waited, .int .i64 s.sent, .int .i64 s.vain] 71 :: _) := S0
  have c1 := S1.cell 0 rfl 1
  simp only [List.getElem?_cons_zero, List.getElem?_cons_succ] at c1
  go_enter Try.func16, Try.ntmps16
  go_wp2_with fail
  go_ret
  exact ⟨rfl, S⟩
theorem left_none (w : World) : Calls Try.prog 16 #[.pointer none] w fun e w' => e = .returned (.int .i64 0) ∧ w = w' := by
  go_enter Try.func16, Try.ntmps16
  go_wp2_with fail
  go_ret
  exact ⟨rfl, rfl⟩
set_option maxRecDepth 100000 in
theorem stats_any {W0 w : World} {L : List Asn} {g : Nat} {s : LS} (S : Sat W0 w (PL g s :: L)) :
    Calls Try.prog 20 #[.pointer (some ⟨g, 0, none⟩)] w fun e w' => e = .returned (.tuple #[.int .i64 s.sent, .int .i64 s.vain]) ∧ Sat W0 w' (PL g s :: L) := by
  obtain ⟨ra, rc, S0⟩ := PL_open.1 S
  have S1 : Sat W0 w (blk g [.int .i64 s.id, .slice ra s.rows.length rc, .int .i64 s.first, .int .i64 (s.under : Int), .int .i64 s.came, .int .i64 s.waited, .int .i64 s.sent, .int .i64 s.vain] 71 :: _) := S0
  have c6 := S1.cell 0 rfl 6
  have c7 := S1.cell 0 rfl 7
  simp only [List.getElem?_cons_zero, List.getElem?_cons_succ] at c6 c7
  go_enter Try.func20, Try.ntmps20
  go_upto_region 3 with fail
  go_quiet (fail)
  go_wp2_with fail
  go_ret2
  exact ⟨rfl, S.drewN nq⟩
theorem stats_none (w : World) : Calls Try.prog 20 #[.pointer none] w fun e w' => e = .returned (.tuple #[.int .i64 0, .int .i64 0]) ∧ w = w' := by
  go_enter Try.func20, Try.ntmps20
  go_wp2_with fail
  go_ret2
  exact ⟨rfl, rfl⟩
end Go.Proofs.Ytdgalljalcediaa
