/-
  vm: a store in a region; the beginning is a state; three cells.
-/
import Derived.Test.YtjdeeloemhjbhaaGreatQVmV

namespace Go.Proofs.YtjdeeloemhjbhaaGreat
open Go.RowKit Go.Sep Go.Vm
set_option linter.unusedSimpArgs false

theorem step_store_sat {P : Program} {W0 w : World} {L : List Asn} {ops : Array Oper} {o : Oper} {a : Act} {K : Act → World → Prop} {Q : Exit → Act → World → Prop} {E : Prop} (hgd : o.guard = none) (ty : TypeId) (x y : Operand) (ho : o.op = .store ty x y)
    {g off n : Nat} {cs news : List Value} {e : TypeId} (S : Sat W0 w (blk g cs e :: L)) (hx : a.eval x = .pointer (some ⟨g, off, none⟩)) (hy : a.eval y = .agg news.toArray) (hn : news.length = n) (hfit : off + n ≤ cs.length)
    (hi : (P.info? ty).map (·.size) = some n) (h1 : ∀ u ∈ news, u.oneCell' = true)
    (h : ∀ w', Sat W0 w' (blk g (cs.take off ++ news ++ cs.drop (off + n)) e :: L) → K (a.put o.dst undef) w') : if Region.wanted o (yielded ops a.tmps) = true then Oper.wp P o a w K Q else E := by
  have hw : Region.wanted o (yielded ops a.tmps) = true := by simp [Region.wanted, hgd]
  rw [if_pos hw]
  have S2 := S.setCells off news (by omega)
  rw [hn] at S2
  have h2 := h _ S2
  unfold Oper.wp execOp
  simp only [ho, hx, hy, Instr.storeAt, Instr.sureAddr, Sem.run_bind, Sem.run_pure, Result.andThen_ok, run_storeVar_sat S hn hfit hi h1]
  exact h2

theorem start_ok {x : Int} (hx : 0 ≤ x ∧ x < 4294967296) : (VS.start x).Ok :=
  ⟨rfl, fun c hc => by
    have := (List.mem_replicate.1 (show c ∈ List.replicate 16 (0 : Int) from hc)).2
    omega, by show (-9223372036854775808 : Int) ≤ 0 ∧ (0 : Int) < 9223372036854775808; omega, by show 0 ≤ max 1 x ∧ max 1 x < 4294967296; omega, by show (-9223372036854775808 : Int) ≤ 0 ∧ (0 : Int) < 9223372036854775808; omega⟩
theorem gat {W0 w : World} {L : List Asn} {pg : Nat} {a b c : Value} {e : TypeId} (S : Sat W0 w (blk pg [a, b, c] e :: L)) : w.cell? ⟨pg, 0, none⟩ = some a ∧ w.cell? ⟨pg, 1, none⟩ = some b ∧ w.cell? ⟨pg, 2, none⟩ = some c :=
  ⟨S.cell 0 rfl 0, S.cell 0 rfl 1, S.cell 0 rfl 2⟩

end Go.Proofs.YtjdeeloemhjbhaaGreat
