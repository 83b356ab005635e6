/-
  octet: fields whose bytes are cut short: plain.
-/
import Derived.Test.YtbkieoblhacngaaLwJoins
import Derived.Test.YtbkieoblhacngaaArr
namespace Go.Proofs.Ytbkieoblhacngaa
open Go.RowKit Go.Sep Go.Oct

theorem rd_digs_cut : ∀ (m k : Nat) (x u : Int) (n : Nat), m + k = 9 → n < (digs m u).length → rdNumFrom k x ((digs m u).take n) 0 = (0, [], 2)
  | 0, k, x, u, n, hk, hn => by
    simp only [digs, List.length_singleton] at hn
    obtain rfl : n = 0 := by omega
    rw [List.take_zero, rdNumFrom_nil (by omega)]
  | m + 1, k, x, u, n, hk, hn => by
    cases n with
    | zero => rw [List.take_zero, rdNumFrom_nil (by omega)]
    | succ n =>
      by_cases h : 128 ≤ u
      · rw [digs_ge m h] at hn ⊢
        rw [List.take_succ_cons, rdNumFrom_more (by omega) (by omega) (by omega)]
        exact rd_digs_cut m (k + 1) _ _ n (by omega) (by simpa using hn)
      · rw [digs_lt (m + 1) (by omega)] at hn
        simp at hn
theorem rdNum_cut (v : Int) (n : Nat) (hn : n < (num v).length) : rdNum ((num v).take n) 0 = (0, [], 2) := rd_digs_cut 9 0 0 _ n rfl hn
theorem rdNum_dead : rdNum [] 2 = (0, [], 2) := rdNumFrom_err (by omega) (by omega)
theorem tk_dead (n : Nat) : tk n [] 2 = ([], [], 2) := tk_err (by omega)

def Dead (f : Fd) (bs : List Int) (e : Int) : Prop := (bs = [] ∧ e = 2) ∨ ∃ n, n < (fb f).length ∧ bs = (fb f).take n ∧ e = 0

theorem dead_tk {f : Fd} {bs : List Int} {e : Int} (h : Dead f bs e) {n : Nat} (hn : (fb f).length = n) : tk n bs e = ([], [], 2) := by
  rcases h with ⟨rfl, rfl⟩ | ⟨k, hk, rfl, rfl⟩
  · exact tk_dead n
  · exact tk_lt (by rw [List.length_take]; omega)
theorem dead_one {f : Fd} {bs : List Int} {e : Int} (h : Dead f bs e) (k : f.kind = 1) : tk 1 bs e = ([], [], 2) := dead_tk h (by unfold fb; rw [if_pos k]; rfl)
theorem dead_two {f : Fd} {bs : List Int} {e : Int} (h : Dead f bs e) (k : f.kind = 2) : tk 2 bs e = ([], [], 2) := dead_tk h (by unfold fb; rw [if_neg (by omega), if_pos k]; rfl)
theorem dead_four {f : Fd} {bs : List Int} {e : Int} (h : Dead f bs e) (k : f.kind = 3) : tk 4 bs e = ([], [], 2) := dead_tk h (by unfold fb; rw [if_neg (by omega), if_neg (by omega), if_pos k]; rfl)
theorem dead_num {f : Fd} {bs : List Int} {e : Int} (h : Dead f bs e) (k : f.kind = 4) : rdNum bs e = (0, [], 2) := by
  have e1 : fb f = num f.n := by unfold fb; rw [if_neg (by omega), if_neg (by omega), if_neg (by omega), if_pos k]
  rcases h with ⟨rfl, rfl⟩ | ⟨n, hn, rfl, rfl⟩
  · exact rdNum_dead
  · rw [e1] at hn ⊢; exact rdNum_cut _ _ hn
theorem dead_bytes {w : World} {f : Fd} {bs : List Int} {e : Int} (hf : Good w f) (hl : f.len ≤ 3000) (h : Dead f bs e) (k : f.kind = 5) : rdBytes bs e = ([], [], 2) := by
  have e1 : fb f = num f.bs.length ++ f.bs := by unfold fb; rw [if_neg (by omega), if_neg (by omega), if_neg (by omega), if_neg (by omega), if_pos k]
  have hlen := hf.len
  have z : ∀ b e', rdNum b e' = (0, [], 2) → rdBytes b e' = ([], [], 2) := by
    intro b e' h0
    rw [rdBytes_ok (by rw [h0]; simp), h0]
    exact tk_dead _
  rcases h with ⟨rfl, rfl⟩ | ⟨n, hn, rfl, rfl⟩
  · exact z _ _ rdNum_dead
  · rw [e1] at hn ⊢
    by_cases hn2 : n < (num f.bs.length).length
    · rw [List.take_append_of_le_length (by omega)]
      exact z _ _ (rdNum_cut _ _ hn2)
    · rw [List.take_append, List.take_of_length_le (by omega)]
      have h0 := rdNum_num (v := f.bs.length) (by omega) (by omega) (f.bs.take (n - (num f.bs.length).length))
      rw [rdBytes_ok (by rw [h0]; simp only; omega), h0]
      rw [List.length_append] at hn
      exact tk_lt (by rw [List.length_take]; simp only [Int.toNat_natCast]; omega)
theorem dead_hash {w : World} {f : Fd} {bs : List Int} {e : Int} (hf : Good w f) (h : Dead f bs e) (k1 : f.kind ≠ 1) (k2 : f.kind ≠ 2) (k3 : f.kind ≠ 3) (k4 : f.kind ≠ 4) (k5 : f.kind ≠ 5) : rdHash bs e = (zeros32, [], 2) := by
  have e1 : tk 32 bs e = ([], [], 2) := dead_tk h (by unfold fb; rw [if_neg k1, if_neg k2, if_neg k3, if_neg k4, if_neg k5]; exact hf.h)
  unfold rdHash
  rw [e1]
  rfl

def CutInv (cut : Nat) (l : List Fd) (k : Nat) (bs : List Int) (e : Int) : Prop :=
  ((fbs (l.take k)).length ≤ cut ∧ bs = (fbs (l.drop k)).take (cut - (fbs (l.take k)).length) ∧ e = 0) ∨ (cut < (fbs (l.take k)).length ∧ bs = [] ∧ e = 2)

theorem fbs_take {l : List Fd} {k : Nat} {f : Fd} (h : l[k]? = some f) : fbs (l.take (k + 1)) = fbs (l.take k) ++ fb f := by
  rw [List.take_add_one, h, fbs_append_one]

theorem cut_step {cut : Nat} {l : List Fd} {k : Nat} {bs : List Int} {e : Int} {f : Fd} (h : CutInv cut l k bs e) (hf : l[k]? = some f) :
    ((fbs (l.take (k + 1))).length ≤ cut ∧ ∃ r, bs = fb f ++ r ∧ e = 0 ∧ CutInv cut l (k + 1) r 0) ∨ (cut < (fbs (l.take (k + 1))).length ∧ Dead f bs e ∧ CutInv cut l (k + 1) [] 2) := by
  have e1 := congrArg List.length (fbs_take hf)
  rw [List.length_append] at e1
  have e2 := fbs_drop hf
  rw [fbs_cons] at e2
  rcases h with ⟨h1, rfl, rfl⟩ | ⟨h1, rfl, rfl⟩
  · by_cases hc : (fbs (l.take (k + 1))).length ≤ cut
    · refine .inl ⟨hc, (fbs (l.drop (k + 1))).take (cut - (fbs (l.take (k + 1))).length), ?_, rfl, .inl ⟨hc, rfl, rfl⟩⟩
      rw [← e2, List.take_append, List.take_of_length_le (by omega)]
      congr 2
      omega
    · refine .inr ⟨by omega, .inr ⟨cut - (fbs (l.take k)).length, by omega, ?_, rfl⟩, .inr ⟨by omega, rfl, rfl⟩⟩
      rw [← e2, List.take_append_of_le_length (by omega)]
  · exact .inr ⟨by omega, .inl ⟨rfl, rfl⟩, .inr ⟨by omega, rfl, rfl⟩⟩
end Go.Proofs.Ytbkieoblhacngaa
