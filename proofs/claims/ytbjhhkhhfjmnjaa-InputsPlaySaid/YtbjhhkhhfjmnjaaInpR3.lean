/-
  gauntletref12: the document's Queue: New.
-/
import Derived.Test.YtbjhhkhhfjmnjaaInpR2
namespace Go.Proofs.Ytbjhhkhhfjmnjaa
open Go.RowKit Go.Sep Go.Inp

set_option maxRecDepth 100000 in
theorem rnew_bad (w : World) {n : Int} (h : n < 1 ∨ 600 < n) : Calls Try.prog 11 #[.int .i64 n] w fun e w' => e = .returned (.tuple #[.pointer none, .int .i64 1]) ∧ w = w' := by
  rcases h with h | h
  all_goals
    go_enter Try.func11, Try.ntmps11
    go_wp2_with fail
    go_ret2
    exact ⟨rfl, rfl⟩

def RNewSt (W0 : World) (L : List Asn) (p n : Nat) : Nat → World → Prop
  | 0, w => Sat W0 w (blk p [.int .i64 n, .slice none 0 0, .slice none 0 0, .slice none 0 0, .slice none 0 0] 62 :: L)
  | 1, w => ∃ g h, Sat W0 w (blk p [.int .i64 n, .slice (some ⟨g, 0, none⟩) n n, .slice none 0 0, .slice (some ⟨h, 0, none⟩) n n, .slice none 0 0] 62 :: blk g (uv (List.replicate n 0)) 29 :: blk h (kv (List.replicate n false)) 4 :: L)
  | _, w => ∃ g h g' h', Sat W0 w (blk p (csR n (g, h, g', h')) 62 :: blk g (uv (List.replicate n 0)) 29 :: blk h (kv (List.replicate n false)) 4 :: blk g' (uv (List.replicate n 0)) 29 :: blk h' (kv (List.replicate n false)) 4 :: L)

set_option maxRecDepth 100000 in
theorem rnew_any {W0 w : World} {L : List Asn} (S : Sat W0 w L) (n : Nat) (h1 : 1 ≤ n) (h2 : n ≤ 600) :
    Calls Try.prog 11 #[.int .i64 n] w fun e w' => ∃ p, e = .returned (.tuple #[.pointer (some ⟨p, 0, none⟩), .int .i64 0]) ∧ Sat W0 w' (RQu p (PQ.new n) :: L) := by
  have hu := fun w => mk_u w n h2
  have hk := fun w => mk_k w n h2
  have S0 : RNewSt W0 L w.heap.size n 0 (w.alloc (.cells #[.int .i64 n, .slice none 0 0, .slice none 0 0, .slice none 0 0, .slice none 0 0] 62)) := S.alloc [.int .i64 n, .slice none 0 0, .slice none 0 0, .slice none 0 0, .slice none 0 0] _
  go_enter Try.func11, Try.ntmps11
  go_wp2_with fail
  go_loopw [5] (fun i wr => ∃ k : Nat, k ≤ 2 ∧ i = .int .i64 k ∧ RNewSt W0 L w.heap.size n k wr) (fun i _ => 2 - (intOf i).toNat)
  case atStart => exact ⟨0, by omega, rfl, S0⟩
  case round =>
    obtain ⟨k, hkk, rfl, S1⟩ := hrel
    match k, hkk, S1 with
    | 0, _, S1 =>
      have S1' : Sat W0 wr (blk w.heap.size [.int .i64 n, .slice none 0 0, .slice none 0 0, .slice none 0 0, .slice none 0 0] 62 :: L) := S1
      have c1 := S1'.cell 0 rfl 1
      have c3 := S1'.cell 0 rfl 3
      have fz := fun k => S1'.frozen 0 rfl k
      have hlt := (S1'.block 0 rfl).2.2
      simp only [List.getElem?_cons_zero, List.getElem?_cons_succ] at c1 c3
      go_wp2_with fail
      go_region
      all_goals
        go_wp2_with fail
        go_region
        all_goals
          go_wp2
          go_roundw
          case rel =>
            refine ⟨1, by omega, rfl, wr.heap.size, wr.heap.size + 1, ?_⟩
            have T := (((((S1'.setCell (k := 1) (v := .slice (some ⟨wr.heap.size, 0, none⟩) n n) 0 rfl).setCell (k := 3) (v := .slice (some ⟨wr.heap.size + 1, 0, none⟩) n n) 0 rfl).alloc (uv (List.replicate n 0)) 29).alloc (kv (List.replicate n false)) 4).drew).drew
            simp only [World.size_alloc, World.size_setCell] at T
            exact T.sel [2, 1, 0]
          case measure => simp [intOf]
    | 1, _, S1 =>
      obtain ⟨g, h, S1'⟩ : ∃ g h, Sat W0 wr (blk w.heap.size [.int .i64 n, .slice (some ⟨g, 0, none⟩) n n, .slice none 0 0, .slice (some ⟨h, 0, none⟩) n n, .slice none 0 0] 62 :: blk g (uv (List.replicate n 0)) 29 :: blk h (kv (List.replicate n false)) 4 :: L) := S1
      have c1 := S1'.cell 0 rfl 2
      have c3 := S1'.cell 0 rfl 4
      have fz := fun k => S1'.frozen 0 rfl k
      have hlt := (S1'.block 0 rfl).2.2
      simp only [List.getElem?_cons_zero, List.getElem?_cons_succ] at c1 c3
      go_wp2_with fail
      go_region
      all_goals
        go_wp2_with fail
        go_region
        all_goals
          go_wp2
          go_roundw
          case rel =>
            refine ⟨2, by omega, rfl, g, h, wr.heap.size, wr.heap.size + 1, ?_⟩
            have T := (((((S1'.setCell (k := 2) (v := .slice (some ⟨wr.heap.size, 0, none⟩) n n) 0 rfl).setCell (k := 4) (v := .slice (some ⟨wr.heap.size + 1, 0, none⟩) n n) 0 rfl).alloc (uv (List.replicate n 0)) 29).alloc (kv (List.replicate n false)) 4).drew).drew
            simp only [World.size_alloc, World.size_setCell] at T
            exact T.sel [2, 2, 2, 1, 0]
          case measure => simp [intOf]
    | 2, _, S1 =>
      obtain ⟨g, h, g', h', S1'⟩ : ∃ g h g' h', Sat W0 wr (blk w.heap.size (csR n (g, h, g', h')) 62 :: blk g (uv (List.replicate n 0)) 29 :: blk h (kv (List.replicate n false)) 4 :: blk g' (uv (List.replicate n 0)) 29 :: blk h' (kv (List.replicate n false)) 4 :: L) := S1
      go_wp2
      go_ret2
      exact ⟨_, rfl, RQu_open.2 ⟨(g, h, g', h'), S1'⟩⟩
end Go.Proofs.Ytbjhhkhhfjmnjaa
