/-
  wire, plain: a request and a reply as bytes.
-/
import Derived.Test.YtjdeeloemhjbhaaGreatQFrP

namespace Go.Oct
open Go.RowKit

def I64 (v : Int) : Prop := -9223372036854775808 ≤ v ∧ v < 9223372036854775808
def I64s (l : List Int) : Prop := ∀ x ∈ l, I64 x
def nv (l : List Int) : List Value := l.map (Value.int .i64)
theorem nv_length (l : List Int) : (nv l).length = l.length := by simp [nv]
theorem nv_one (l : List Int) : ∀ u ∈ nv l, u.oneCell' = true := by
  intro u hu
  obtain ⟨x, _, rfl⟩ := List.mem_map.1 hu
  rfl
theorem nv_append (a b : List Int) : nv (a ++ b) = nv a ++ nv b := by simp [nv]
theorem nv_at {l : List Int} {k : Nat} {x : Int} (h : l[k]? = some x) : (nv l)[k]? = some (.int .i64 x) := by
  unfold nv; rw [List.getElem?_map, h]; rfl
def numsB (l : List Int) : List Int := (l.map num).flatten
theorem numsB_append (a b : List Int) : numsB (a ++ b) = numsB a ++ numsB b := by simp [numsB]
theorem numsB_one (x : Int) : numsB [x] = num x := by simp [numsB]
theorem numsB_length : ∀ l : List Int, (numsB l).length ≤ 10 * l.length
  | [] => by simp [numsB]
  | x :: r => by
    have h1 := num_length x
    have h2 := numsB_length r
    rw [show numsB (x :: r) = num x ++ numsB r from rfl, List.length_append, List.length_cons]
    omega
theorem numsB_bytes {l : List Int} (h : I64s l) : Bytes (numsB l) := by
  induction l with
  | nil => intro x hx; simp [numsB] at hx
  | cons x r ih =>
    rw [show numsB (x :: r) = num x ++ numsB r from rfl]
    exact (num_bytes (h x (by simp)).1 (h x (by simp)).2).append (ih fun y hy => h y (by simp [hy]))
theorem numsB_take {l : List Int} {k : Nat} {x : Int} (h : l[k]? = some x) : numsB (l.take (k + 1)) = numsB (l.take k) ++ num x := by
  obtain ⟨hk, rfl⟩ := List.getElem?_eq_some_iff.1 h
  rw [List.take_succ_eq_append_getElem hk, numsB_append, numsB_one]
/-- what stands in the frame -/
def bodyB (mark kind seq : Int) (nums data : List Int) : List Int := [mark, kind] ++ num seq ++ num nums.length ++ numsB nums ++ num data.length ++ data
theorem bodyB_bytes {mark kind seq : Int} {nums data : List Int} (hm : 0 ≤ mark ∧ mark < 256) (hk : 0 ≤ kind ∧ kind < 256) (hs : I64 seq) (hn : I64s nums) (hd : Bytes data) (hl : nums.length ≤ 1000000) (hdl : data.length ≤ 1000000) : Bytes (bodyB mark kind seq nums data) := by
  refine ((((Bytes.append ?_ (num_bytes hs.1 hs.2)).append (num_bytes (by omega) (by omega))).append (numsB_bytes hn)).append (num_bytes (by omega) (by omega))).append hd
  intro x hx
  simp only [List.mem_cons, List.not_mem_nil, or_false] at hx
  rcases hx with rfl | rfl
  · exact hm
  · exact hk
theorem bodyB_length (mark kind seq : Int) (nums data : List Int) : (bodyB mark kind seq nums data).length ≤ 32 + 10 * nums.length + data.length := by
  have h1 := num_length seq
  have h2 := num_length nums.length
  have h3 := num_length data.length
  have h4 := numsB_length nums
  unfold bodyB
  simp only [List.length_append, List.length_cons, List.length_nil]
  omega
def maySay (kind least top seq : Int) (n d : Nat) (most : Nat) : Int :=
  if kind < least ∨ top < kind ∨ seq < 0 ∨ 9007199254740992 < seq then 1 else if 80 < n ∨ most < d then 5 else 0
def sayP (mark kind least top seq : Int) (nums data : List Int) (most : Nat) : List Int × Int :=
  if maySay kind least top seq nums.length data.length most ≠ 0 then ([], maySay kind least top seq nums.length data.length most) else encF (bodyB mark kind seq nums data)
end Go.Oct
