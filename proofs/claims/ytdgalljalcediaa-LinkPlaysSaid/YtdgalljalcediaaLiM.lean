/-
  link: rows of bytes in memory, an end in memory.
-/
import Derived.Test.YtdgalljalcediaaLiP
import Derived.Test.YtdgalljalcediaaFOct1
namespace Go.Proofs.Ytdgalljalcediaa
open Go.RowKit Go.Sep Go.Oct

abbrev Hd := Option Addr × Nat × Nat
def hv (h : Hd) : Value := .slice h.1 h.2.1 h.2.2
/-- the rows themselves -/
def rowsB : List Hd → List (List Int) → Asn
  | h :: hs, r :: rs => star (sbs h.1 r.length h.2.2 r) (pureA (h.2.1 = r.length) (rowsB hs rs))
  | [], [] => emp
  | _, _ => pureA False emp
theorem rowsB_len {W0 w : World} {L : List Asn} : ∀ {hs : List Hd} {rs : List (List Int)}, Sat W0 w (rowsB hs rs :: L) → hs.length = rs.length
  | [], [], _ => rfl
  | h :: hs, r :: rs, S => by
    have S1 := (Sat.star.1 S).tail
    obtain ⟨_, S2⟩ := Sat.pure.1 S1
    have := rowsB_len S2
    simp [this]
  | [], _ :: _, S => absurd (Sat.pure.1 S).1 id
  | _ :: _, [], S => absurd (Sat.pure.1 S).1 id
theorem rowsB_at {W0 w : World} {L : List Asn} : ∀ {hs : List Hd} {rs : List (List Int)} (_ : Sat W0 w (rowsB hs rs :: L)) {i : Nat} {r : List Int}, rs[i]? = some r →
    ∃ ao cap, hs[i]? = some (ao, r.length, cap) ∧ Rd w ao (bv r) ∧ r.length ≤ cap ∧ cap ≤ maxLen
  | [], [], _, i, r, h => by simp at h
  | (a, n, c) :: hs, r :: rs, S, 0, r', h => by
    cases h
    have S1 := Sat.star.1 S
    obtain ⟨h1, _⟩ := Sat.pure.1 S1.tail
    have hl := S1.own_len
    cases h1
    exact ⟨a, c, rfl, S1.own_rd, hl.2.1, hl.2.2.1⟩
  | h :: hs, r :: rs, S, i + 1, r', hi => by
    obtain ⟨_, S2⟩ := Sat.pure.1 (Sat.star.1 S).tail
    exact rowsB_at S2 (i := i) hi
  | [], _ :: _, S, _, _, _ => absurd (Sat.pure.1 S).1 id
  | _ :: _, [], S, _, _, _ => absurd (Sat.pure.1 S).1 id
theorem rowsB_push {W0 w : World} {a : Option Addr} {c : Nat} {r : List Int} : ∀ {L : List Asn} {hs : List Hd} {rs : List (List Int)}, Sat W0 w (sbs a r.length c r :: rowsB hs rs :: L) → Sat W0 w (rowsB (hs ++ [(a, r.length, c)]) (rs ++ [r]) :: L)
  | L, [], [], S => Sat.star.2 (Sat.swap (Sat.pure.2 ⟨rfl, (S.swap : Sat W0 w (emp :: sbs a r.length c r :: L))⟩))
  | L, h :: hs, r' :: rs, S => by
    have S1 := Sat.star.1 S.swap
    have S2 : Sat W0 w (pureA (h.2.1 = r'.length) (rowsB hs rs) :: sbs a r.length c r :: sbs h.1 r'.length h.2.2 r' :: L) := S1.sel [1, 1]
    obtain ⟨h1, S3⟩ := Sat.pure.1 S2
    have S4 := rowsB_push S3.swap
    exact Sat.star.2 (Sat.swap (Sat.pure.2 ⟨h1, S4⟩))
  | L, [], _ :: _, S => absurd (Sat.pure.1 S.tail).1 id
  | L, _ :: _, [], S => absurd (Sat.pure.1 S.tail).1 id
theorem rowsB_tail {W0 w : World} {L : List Asn} {h : Hd} {hs : List Hd} {r : List Int} {rs : List (List Int)} (S : Sat W0 w (rowsB (h :: hs) (r :: rs) :: L)) : Sat W0 w (rowsB hs rs :: L) :=
  (Sat.pure.1 (Sat.star.1 S).tail).2

/-- rows of bytes, the list of them and they themselves owned -/
def brs (ao : Option Addr) (n cap : Nat) (rs : List (List Int)) : Asn := exA fun hs : List Hd => pureA (rs.length = n) (star (slc 29 1 ao n cap (hs.map hv)) (rowsB hs rs))
theorem brs_out {W0 w : World} {L : List Asn} {ao : Option Addr} {n cap : Nat} {rs : List (List Int)} (S : Sat W0 w (brs ao n cap rs :: L)) : ∃ hs : List Hd, rs.length = n ∧ hs.length = n ∧ Sat W0 w (slc 29 1 ao n cap (hs.map hv) :: rowsB hs rs :: L) := by
  obtain ⟨hs, S1⟩ := Sat.ex.1 S
  obtain ⟨h1, S2⟩ := Sat.pure.1 S1
  have S3 := Sat.star.1 S2
  exact ⟨hs, h1, by rw [rowsB_len S3.tail, h1], S3⟩
theorem brs_in {W0 w : World} {L : List Asn} {ao : Option Addr} {n cap : Nat} {hs : List Hd} {rs : List (List Int)} (h : rs.length = n) (S : Sat W0 w (slc 29 1 ao n cap (hs.map hv) :: rowsB hs rs :: L)) : Sat W0 w (brs ao n cap rs :: L) :=
  Sat.ex.2 ⟨hs, Sat.pure.2 ⟨h, Sat.star.2 S⟩⟩
theorem brs_none {W0 w : World} {L : List Asn} (S : Sat W0 w L) : Sat W0 w (brs none 0 0 [] :: L) :=
  brs_in (hs := []) rfl (Sat.own_none.2 ⟨rfl, rfl, rfl, (show Sat W0 w (emp :: L) from S.emp)⟩)
theorem hv_one (hs : List Hd) : ∀ u ∈ hs.map hv, u.oneCell' = true := by
  intro u hu
  obtain ⟨x, _, rfl⟩ := List.mem_map.1 hu
  rfl
theorem Try.infoR : (Try.prog.info? 29).map (fun i => (i.zero, i.size, i.bytes)) = some (some (.slice none 0 0), 1, 24) := by kernel_rfl
end Go.Proofs.Ytdgalljalcediaa
