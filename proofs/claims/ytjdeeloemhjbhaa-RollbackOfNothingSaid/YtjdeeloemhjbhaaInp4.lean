/-
  inputs: a new Queue; how much is known of both.
-/
import Derived.Test.YtjdeeloemhjbhaaInp3
import Derived.Laws.MakeOwn
namespace Go.Proofs.Ytjdeeloemhjbhaa
open Go.RowKit Go.Sep Go.Inp

theorem Try.qinfoU : (Try.prog.info? 22).map (fun i => (i.zero, i.size, i.bytes)) = some (some (.int .u16 0), 1, 2) := by kernel_rfl
theorem Try.qinfoK : (Try.prog.info? 4).map (fun i => (i.zero, i.size, i.bytes)) = some (some (.bool false), 1, 1) := by kernel_rfl

theorem made_u (n : Nat) : madeCells (Value.int .u16 0).cells n = (uv (List.replicate n 0)).toArray := by
  apply Array.ext
  · simp [madeCells, uv]
  · intro i h1 h2
    simp [madeCells, Value.cells, uv, Nat.mod_one]
theorem made_k (n : Nat) : madeCells (Value.bool false).cells n = (kv (List.replicate n false)).toArray := by
  apply Array.ext
  · simp [madeCells, kv]
  · intro i h1 h2
    simp [madeCells, Value.cells, kv, Nat.mod_one]

theorem mk_u (w : World) (n : Nat) (hn : n ≤ 600) : (Instr.makeSlice 67 (.int .i64 n) (.int .i64 n)).run Try.prog w = .ok (.slice (some ⟨w.heap.size, 0, none⟩) n n) (w.alloc (.cells (uv (List.replicate n 0)).toArray 22)) := by
  obtain ⟨i0, hi, hz0, hz1, hz2⟩ := info_parts Try.qinfoU
  have h := run_make (P := Try.prog) w 67 22 i0 (.int .u16 0) Try.underlying67 hi hz0 .i64 .i64 (n : Int) (n : Int) (by omega) (by omega) (by rw [hz2]; omega) (by omega)
  rw [h, hz1, Int.toNat_natCast, Nat.mul_one, made_u]
theorem mk_k (w : World) (n : Nat) (hn : n ≤ 600) : (Instr.makeSlice 68 (.int .i64 n) (.int .i64 n)).run Try.prog w = .ok (.slice (some ⟨w.heap.size, 0, none⟩) n n) (w.alloc (.cells (kv (List.replicate n false)).toArray 4)) := by
  obtain ⟨i0, hi, hz0, hz1, hz2⟩ := info_parts Try.qinfoK
  have h := run_make (P := Try.prog) w 68 4 i0 (.bool false) Try.underlying68 hi hz0 .i64 .i64 (n : Int) (n : Int) (by omega) (by omega) (by rw [hz2]; omega) (by omega)
  rw [h, hz1, Int.toNat_natCast, Nat.mul_one, made_k]

set_option maxRecDepth 100000 in
theorem qnew_bad (w : World) {n : Int} (h : n < 1 ∨ 600 < n) : Calls Try.prog 18 #[.int .i64 n] w fun e w' => e = .returned (.tuple #[.pointer none, .int .i64 1]) ∧ w = w' := by
  rcases h with h | h
  all_goals
    go_enter Try.func18, Try.ntmps18
    go_wp2_with fail
    go_ret2
    exact ⟨rfl, rfl⟩

def z3 : List Value := [.slice none 0 0, .slice none 0 0, .int .i64 0]
def NewSt (W0 : World) (L : List Asn) (p n : Nat) : Nat → World → Prop
  | 0, w => Sat W0 w (blk p (z3 ++ z3) 73 :: L)
  | 1, w => ∃ g h, Sat W0 w (blk p (rowCells g h n 0 ++ z3) 73 :: blk g (uv (List.replicate n 0)) 22 :: blk h (kv (List.replicate n false)) 4 :: L)
  | _, w => ∃ g h g' h', Sat W0 w (blk p (rowCells g h n 0 ++ rowCells g' h' n 0) 73 :: blk g (uv (List.replicate n 0)) 22 :: blk h (kv (List.replicate n false)) 4 :: blk g' (uv (List.replicate n 0)) 22 :: blk h' (kv (List.replicate n false)) 4 :: L)

set_option maxRecDepth 100000 in
theorem qnew_any {W0 w : World} {L : List Asn} (S : Sat W0 w L) (n : Nat) (h1 : 1 ≤ n) (h2 : n ≤ 600) :
    Calls Try.prog 18 #[.int .i64 n] w fun e w' => ∃ p, e = .returned (.tuple #[.pointer (some ⟨p, 0, none⟩), .int .i64 0]) ∧ Sat W0 w' (Qu p (PQ.new n) :: L) := by
  have hu := fun w => mk_u w n h2
  have hk := fun w => mk_k w n h2
  have S0 : NewSt W0 L w.heap.size n 0 (w.alloc (.cells (z3 ++ z3).toArray 73)) := S.alloc (z3 ++ z3) _
  go_enter Try.func18, Try.ntmps18
  go_wp2_with fail
  go_loopw [14] (fun i wr => ∃ k : Nat, k ≤ 2 ∧ i = .int .i64 k ∧ NewSt W0 L w.heap.size n k wr) (fun i _ => 2 - (intOf i).toNat)
  case atStart => exact ⟨0, by omega, rfl, S0⟩
  case round =>
    obtain ⟨k, hk, rfl, S1⟩ := hrel
    match k, hk, S1 with
    | 0, _, S1 =>
      have S1' : Sat W0 wr (blk w.heap.size (z3 ++ z3) 73 :: L) := S1
      have c0 := S1'.cell 0 rfl 0
      have c1 := S1'.cell 0 rfl 1
      have c2 := S1'.cell 0 rfl 2
      have fz := fun k => S1'.frozen 0 rfl k
      have hlt := (S1'.block 0 rfl).2.2
      simp only [z3, List.cons_append, List.nil_append, List.getElem?_cons_zero, List.getElem?_cons_succ] at c0 c1 c2
      go_wp2_with fail
      go_region
      all_goals
        go_wp2
        go_roundw
        case rel =>
          refine ⟨1, by omega, rfl, ?_⟩
          first
            | (have T := ((((((S1'.setCell (k := 0) (v := .slice (some ⟨wr.heap.size, 0, none⟩) n n) 0 rfl).setCell (k := 1) (v := .slice (some ⟨wr.heap.size + 1, 0, none⟩) n n) 0 rfl).setCell (k := 2) (v := .int .i64 0) 0 rfl).alloc (uv (List.replicate n 0)) 22).alloc (kv (List.replicate n false)) 4).drew)
               simp only [World.size_alloc, World.size_setCell] at T
               exact ⟨_, _, T.sel [2, 1, 0]⟩)
            | (have T := ((((((S1'.setCell (k := 0) (v := .slice (some ⟨wr.heap.size + 1, 0, none⟩) n n) 0 rfl).setCell (k := 1) (v := .slice (some ⟨wr.heap.size, 0, none⟩) n n) 0 rfl).setCell (k := 2) (v := .int .i64 0) 0 rfl).alloc (kv (List.replicate n false)) 4).alloc (uv (List.replicate n 0)) 22).drew)
               simp only [World.size_alloc, World.size_setCell] at T
               exact ⟨_, _, T.sel [2, 0, 0]⟩)
        case measure => simp [intOf]
    | 1, _, S1 =>
      obtain ⟨g, h, S1'⟩ : ∃ g h, Sat W0 wr (blk w.heap.size (rowCells g h n 0 ++ z3) 73 :: blk g (uv (List.replicate n 0)) 22 :: blk h (kv (List.replicate n false)) 4 :: L) := S1
      have c0 := S1'.cell 0 rfl 3
      have c1 := S1'.cell 0 rfl 4
      have c2 := S1'.cell 0 rfl 5
      have fz := fun k => S1'.frozen 0 rfl k
      have hlt := (S1'.block 0 rfl).2.2
      simp only [z3, rowCells, List.cons_append, List.nil_append, List.getElem?_cons_zero, List.getElem?_cons_succ] at c0 c1 c2
      go_wp2_with fail
      go_region
      all_goals
        go_wp2
        go_roundw
        case rel =>
          refine ⟨2, by omega, rfl, g, h, ?_⟩
          first
            | (have T := ((((((S1'.setCell (k := 3) (v := .slice (some ⟨wr.heap.size, 0, none⟩) n n) 0 rfl).setCell (k := 4) (v := .slice (some ⟨wr.heap.size + 1, 0, none⟩) n n) 0 rfl).setCell (k := 5) (v := .int .i64 0) 0 rfl).alloc (uv (List.replicate n 0)) 22).alloc (kv (List.replicate n false)) 4).drew)
               simp only [World.size_alloc, World.size_setCell] at T
               exact ⟨_, _, T.sel [2, 2, 2, 1, 0]⟩)
            | (have T := ((((((S1'.setCell (k := 3) (v := .slice (some ⟨wr.heap.size + 1, 0, none⟩) n n) 0 rfl).setCell (k := 4) (v := .slice (some ⟨wr.heap.size, 0, none⟩) n n) 0 rfl).setCell (k := 5) (v := .int .i64 0) 0 rfl).alloc (kv (List.replicate n false)) 4).alloc (uv (List.replicate n 0)) 22).drew)
               simp only [World.size_alloc, World.size_setCell] at T
               exact ⟨_, _, T.sel [2, 2, 2, 0, 0]⟩)
        case measure => simp [intOf]
    | 2, _, S1 =>
      obtain ⟨g, h, g', h', S1'⟩ : ∃ g h g' h', Sat W0 wr (blk w.heap.size (rowCells g h n 0 ++ rowCells g' h' n 0) 73 :: blk g (uv (List.replicate n 0)) 22 :: blk h (kv (List.replicate n false)) 4 :: blk g' (uv (List.replicate n 0)) 22 :: blk h' (kv (List.replicate n false)) 4 :: L) := S1
      go_wp2
      go_ret2
      refine ⟨_, rfl, Qu_open.2 ⟨(g, h, g', h'), ?_⟩⟩
      have hl : lead (List.replicate n false) = 0 := by cases n <;> rfl
      unfold quL PQ.new
      simp only [hl]
      exact S1'
end Go.Proofs.Ytjdeeloemhjbhaa
