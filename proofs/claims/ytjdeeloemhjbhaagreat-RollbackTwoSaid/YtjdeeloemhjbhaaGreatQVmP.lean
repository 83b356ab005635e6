/-
  vm: the machine, plain: a state, a machine that runs within a frame, what each op does.
-/
import Derived.WalkKit

namespace Go.Vm
open Go.RowKit

structure VS where
  frame : Int
  cells : List Int
  seed : Int
  over : Bool
  winner : Int
deriving DecidableEq

structure VM where
  s : VS
  i0 : Int
  i1 : Int
  st : List Int
  pc : Int
  ended : Bool
  bad : Bool

def svals (s : VS) : List Value := .int .i64 s.frame :: (s.cells.map (Value.int .i32) ++ [.int .u32 s.seed, .bool s.over, .int .i64 s.winner])
def mvals (m : VM) (ao : Option Addr) (cap : Nat) : List Value :=
  .int .i64 m.s.frame :: (m.s.cells.map (Value.int .i32) ++ [.int .u32 m.s.seed, .bool m.s.over, .int .i64 m.s.winner, .int .u16 m.i0, .int .u16 m.i1, .slice ao m.st.length cap, .int .i64 m.pc, .bool m.ended, .bool m.bad])

def VS.zero : VS := ⟨0, List.replicate 16 0, 0, false, 0⟩
def VS.start (seed : Int) : VS := ⟨0, List.replicate 16 0, max 1 seed, false, 0⟩

structure VS.Ok (s : VS) : Prop where
  len : s.cells.length = 16
  cells : ∀ c ∈ s.cells, -2147483648 ≤ c ∧ c ≤ 2147483647
  frame : -9223372036854775808 ≤ s.frame ∧ s.frame < 9223372036854775808
  seed : 0 ≤ s.seed ∧ s.seed < 4294967296
  winner : -9223372036854775808 ≤ s.winner ∧ s.winner < 9223372036854775808

structure VM.Ok (m : VM) : Prop where
  s : m.s.Ok
  i0 : 0 ≤ m.i0 ∧ m.i0 < 65536
  i1 : 0 ≤ m.i1 ∧ m.i1 < 65536
  st : ∀ c ∈ m.st, -2147483648 ≤ c ∧ c ≤ 2147483647
  frame : 0 ≤ m.s.frame ∧ m.s.frame ≤ 600

def held (v : Int) : Int := max (-2147483648) (min 2147483647 v)
def fadd (a b : Int) : Int := held (a + b)
def fsub (a b : Int) : Int := held (a - b)
def fmul (a b : Int) : Int := held (a * b / 65536)
def fdiv (a b : Int) : Int := if b ≠ 0 then held ((a * 65536).tdiv b) else if 0 < a then 2147483647 else if a < 0 then -2147483648 else 0
def truth (b : Bool) : Int := if b then 65536 else 0

def op2 (op : Int) (b a : Int) : Int :=
  if op = 4 then fadd b a else if op = 5 then fsub b a else if op = 6 then fmul b a else if op = 7 then fdiv b a
  else if op = 8 then min b a else if op = 9 then max b a else if op = 10 then truth (decide (b < a)) else truth (decide (b = a))

/-- the seed's next -/
def xs13 (x : Int) : Int := bits .xor .u32 x (x * 8192 % 4294967296)
def xs17 (x : Int) : Int := bits .xor .u32 x (x / 131072)
def xs5 (x : Int) : Int := bits .xor .u32 x (x * 32 % 4294967296)
def nextSeed (x : Int) : Int := xs5 (xs17 (xs13 x))

def VM.pop (m : VM) : Int × VM :=
  match m.st with
  | [] => (0, { m with bad := true })
  | v :: r => (v, { m with st := r })
def VM.push (m : VM) (v : Int) : VM := { m with st := v :: m.st, bad := m.bad || decide (32 < m.st.length + 1) }
def VM.push2 (m : VM) (v u : Int) : VM := { m with st := u :: v :: m.st, bad := m.bad || decide (32 < m.st.length + 2) }

/-- an op is done -/
def doP (op arg : Int) (m : VM) : VM :=
  if op = 1 then m.push arg
  else if op = 2 then m.push (m.s.cells[arg.toNat]?.getD 0)
  else if op = 3 then (let p := m.pop; { p.2 with s := { p.2.s with cells := p.2.s.cells.set arg.toNat p.1 } })
  else if op ≤ 11 then (let p := m.pop; let q := p.2.pop; q.2.push (op2 op q.1 p.1))
  else if op = 12 then (let p := m.pop; p.2.push (truth (decide (p.1 = 0))))
  else if op = 13 then (let p := m.pop; p.2.push2 p.1 p.1)
  else if op = 14 then (let p := m.pop; let q := p.2.pop; q.2.push2 p.1 q.1)
  else if op = 15 then m.pop.2
  else if op = 16 then m.push (if arg = 0 then m.i0 else m.i1)
  else if op = 17 then m.push m.s.frame
  else if op = 18 then { m with pc := arg }
  else if op = 19 then (let p := m.pop; if p.1 = 0 then { p.2 with pc := arg } else p.2)
  else if op = 20 then { m with s := { m.s with over := true, winner := arg }, ended := true }
  else if op = 21 then (let m' := { m with s := { m.s with seed := nextSeed m.s.seed } }; m'.push (nextSeed m.s.seed % 65536))
  else { m with ended := true }

/-- may an instruction be that, in a program of so many? -/
def mayP (op arg : Int) (n : Nat) : Bool :=
  if op = 1 then decide (-2147483648 ≤ arg ∧ arg ≤ 2147483647)
  else if op = 2 ∨ op = 3 then decide (0 ≤ arg ∧ arg ≤ 15)
  else if op = 16 then decide (0 ≤ arg ∧ arg ≤ 1)
  else if op = 18 ∨ op = 19 then decide (0 ≤ arg ∧ arg ≤ n)
  else if op = 20 then decide (0 ≤ arg ∧ arg ≤ 2)
  else decide (1 ≤ op ∧ op ≤ 22 ∧ arg = 0)

/-- a program runs: the machine behind it; false: it failed -/
def runP (code : List (Int × Int)) : Nat → VM → Bool × VM
  | fuel, m =>
    if m.pc < code.length ∧ m.ended = false then
      match fuel with
      | 0 => (false, m)
      | fuel + 1 =>
        let x := code[m.pc.toNat]?.getD (0, 0)
        let m' := doP x.1 x.2 { m with pc := m.pc + 1 }
        if m'.bad then (false, m') else runP code fuel m'
    else (true, m)

/-- the first that is none: its place; else the number of all -/
def firstBad (n : Nat) : List (Int × Int) → Nat
  | [] => 0
  | x :: r => if mayP x.1 x.2 n then firstBad n r + 1 else 0
def codeP (code : List (Int × Int)) : Int := if 256 < code.length then 5 else if firstBad code.length code < code.length then 3 else 0
def checkP (code : List (Int × Int)) (cap fuel : Int) : Int :=
  if codeP code ≠ 0 then codeP code else if cap < 1 ∨ 600 < cap ∨ fuel < 1 ∨ 2000 < fuel then 1 else 0
def isP (s : VS) : Bool := decide (0 ≤ s.frame) && (decide (s.frame ≤ 600) && (decide (0 ≤ s.winner) && (decide (s.winner ≤ 2) && (s.over || decide (s.winner = 0)))))

def endP (cap : Int) (s : VS) : VS :=
  let s1 := { s with frame := s.frame + 1 }
  if cap ≤ s1.frame ∧ s1.over = false then
    { s1 with over := true, winner := if s1.cells[1]?.getD 0 < s1.cells[0]?.getD 0 then 0 else if s1.cells[0]?.getD 0 < s1.cells[1]?.getD 0 then 1 else 2 }
  else s1

def stepP (code : List (Int × Int)) (cap fuel : Int) (s : VS) (i0 i1 : Int) : VS × Int :=
  if checkP code cap fuel ≠ 0 then (VS.zero, checkP code cap fuel)
  else if isP s = false ∨ s.seed = 0 then (VS.zero, 1)
  else if s.over = true ∨ cap ≤ s.frame then (VS.zero, 12)
  else
    let r := runP code fuel.toNat ⟨s, i0, i1, [], 0, false, false⟩
    (endP cap (if r.1 then r.2.s else s), 0)

theorem runP_stop {code : List (Int × Int)} {fuel : Nat} {m : VM} (h : ¬ (m.pc < code.length ∧ m.ended = false)) : runP code fuel m = (true, m) := by
  unfold runP; rw [if_neg h]
theorem runP_dry {code : List (Int × Int)} {m : VM} (h : m.pc < code.length ∧ m.ended = false) : runP code 0 m = (false, m) := by
  unfold runP; rw [if_pos h]
theorem runP_bad {code : List (Int × Int)} {fuel : Nat} {m : VM} {x : Int × Int} (h : m.pc < code.length ∧ m.ended = false) (hx : code[m.pc.toNat]? = some x) (hb : (doP x.1 x.2 { m with pc := m.pc + 1 }).bad = true) :
    runP code (fuel + 1) m = (false, doP x.1 x.2 { m with pc := m.pc + 1 }) := by
  conv => lhs; unfold runP
  rw [if_pos h, hx]
  simp only [Option.getD_some]
  rw [if_pos hb]
theorem runP_more {code : List (Int × Int)} {fuel : Nat} {m : VM} {x : Int × Int} (h : m.pc < code.length ∧ m.ended = false) (hx : code[m.pc.toNat]? = some x) (hb : (doP x.1 x.2 { m with pc := m.pc + 1 }).bad = false) :
    runP code (fuel + 1) m = runP code fuel (doP x.1 x.2 { m with pc := m.pc + 1 }) := by
  conv => lhs; unfold runP
  rw [if_pos h, hx]
  simp only [Option.getD_some]
  rw [if_neg (by rw [hb]; simp)]

/-! ### the machine's cells -/
section
variable {m : VM} {ao : Option Addr} {cap : Nat}
theorem mvals_tail (h : m.s.cells.length = 16) (k : Nat) : (mvals m ao cap)[17 + k]? = ([.int .u32 m.s.seed, .bool m.s.over, .int .i64 m.s.winner, .int .u16 m.i0, .int .u16 m.i1, .slice ao m.st.length cap, .int .i64 m.pc, .bool m.ended, .bool m.bad] : List Value)[k]? := by
  unfold mvals
  rw [show 17 + k = (16 + k) + 1 by omega, List.getElem?_cons_succ, List.getElem?_append_right (by rw [List.length_map]; omega), List.length_map, h]
  congr 1
  omega
theorem mvals_cell (h : m.s.cells.length = 16) {k : Nat} (hk : k < 16) : (mvals m ao cap)[1 + k]? = some (.int .i32 (m.s.cells[k]?.getD 0)) := by
  unfold mvals
  rw [show 1 + k = k + 1 by omega, List.getElem?_cons_succ, List.getElem?_append_left (by rw [List.length_map]; omega), List.getElem?_map, List.getElem?_eq_getElem (by omega)]
  rfl
theorem mvals_frame : (mvals m ao cap)[0]? = some (.int .i64 m.s.frame) := rfl
theorem mvals_length (h : m.s.cells.length = 16) : (mvals m ao cap).length = 26 := by
  simp [mvals, h]
theorem set_tail {α : Type} (a : α) (l t : List α) (h : l.length = 16) (k : Nat) (v : α) : (a :: (l ++ t)).set (17 + k) v = a :: (l ++ t.set k v) := by
  rw [show 17 + k = (16 + k) + 1 by omega, List.set_cons_succ, List.set_append_right _ _ (by omega), h]
  congr 3
  omega
theorem mvals_seed (h : m.s.cells.length = 16) (v : Int) : (mvals m ao cap).set 17 (.int .u32 v) = mvals { m with s := { m.s with seed := v } } ao cap :=
  set_tail _ _ _ (by rw [List.length_map, h]) 0 _
theorem mvals_over (h : m.s.cells.length = 16) (v : Bool) : (mvals m ao cap).set 18 (.bool v) = mvals { m with s := { m.s with over := v } } ao cap :=
  set_tail _ _ _ (by rw [List.length_map, h]) 1 _
theorem mvals_winner (h : m.s.cells.length = 16) (v : Int) : (mvals m ao cap).set 19 (.int .i64 v) = mvals { m with s := { m.s with winner := v } } ao cap :=
  set_tail _ _ _ (by rw [List.length_map, h]) 2 _
theorem mvals_st (h : m.s.cells.length = 16) (st : List Int) (ao' : Option Addr) (cap' : Nat) : (mvals m ao cap).set 22 (.slice ao' st.length cap') = mvals { m with st := st } ao' cap' :=
  set_tail _ _ _ (by rw [List.length_map, h]) 5 _
theorem mvals_pc (h : m.s.cells.length = 16) (v : Int) : (mvals m ao cap).set 23 (.int .i64 v) = mvals { m with pc := v } ao cap :=
  set_tail _ _ _ (by rw [List.length_map, h]) 6 _
theorem mvals_ended (h : m.s.cells.length = 16) (v : Bool) : (mvals m ao cap).set 24 (.bool v) = mvals { m with ended := v } ao cap :=
  set_tail _ _ _ (by rw [List.length_map, h]) 7 _
theorem mvals_bad (h : m.s.cells.length = 16) (v : Bool) : (mvals m ao cap).set 25 (.bool v) = mvals { m with bad := v } ao cap :=
  set_tail _ _ _ (by rw [List.length_map, h]) 8 _
theorem mvals_set (h : m.s.cells.length = 16) {k : Nat} (hk : k < 16) (v : Int) : (mvals m ao cap).set (1 + k) (.int .i32 v) = mvals { m with s := { m.s with cells := m.s.cells.set k v } } ao cap := by
  unfold mvals
  rw [show 1 + k = k + 1 by omega, List.set_cons_succ, List.set_append_left _ _ (by rw [List.length_map]; omega)]
  simp only [List.map_set]
end
end Go.Vm
