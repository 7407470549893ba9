import Derived.Test.YtfdjnadopniaeaaLC
import Derived.Test.YtfdjnadopniaeaaLH
namespace Go.Proofs.Ytfdjnadopniaeaa
open Go Go.Gx Go.RowKit
open Kuhn
set_option linter.unusedVariables false
set_option linter.unusedSimpArgs false
theorem lack_none {l : List GGrant} {us : List GUse} {s : List Int} (hl : validG l = true) (hu : validU us = true) (h : lackI l us = (s, false)) : s = [] ∧ asgL l us = true := by
  unfold lackI at h
  rw [if_pos ⟨hl, hu⟩] at h
  unfold asgL
  rw [A_lackP]
  cases hX : lackP (prmN l us) (plyN l) l.length us.length with
  | none => rw [hX] at h; cases h; exact ⟨rfl, rfl⟩
  | some X => rw [hX] at h; cases h
theorem lack_some {l : List GGrant} {us : List GUse} {s : List Int} (hl : validG l = true) (hu : validU us = true) (h : lackI l us = (s, true)) :
    ∃ X : List Nat, s = iz X ∧ X.Sublist (List.range us.length) ∧ need (prmN l us) (plyN l) l.length X < X.length ∧ asgL l us = false := by
  unfold lackI at h
  rw [if_pos ⟨hl, hu⟩] at h
  cases hX : lackP (prmN l us) (plyN l) l.length us.length with
  | none => rw [hX] at h; cases h
  | some X =>
    rw [hX] at h; cases h
    obtain ⟨h1, h2, _⟩ := lackP_some hX
    have hL := lackB_lacks h1 h2
    exact ⟨X, rfl, h1, hL.few, A_no hL⟩
/-- The plays of the first i grants that permit a use of X. -/
def needI (l : List GGrant) (us : List GUse) (X : List Nat) (i : Nat) : Int := ((((List.range i).filter fun k => X.any (prmN l us k)).map (plyN l)).sum : Nat)
theorem needI_succ (l : List GGrant) (us : List GUse) (X : List Nat) (i : Nat) (hp : 0 ≤ (nth l (i : Int)).Plays) : needI l us X (i + 1) = if X.any (prmN l us i) = true then needI l us X i + (nth l (i : Int)).Plays else needI l us X i := by
  unfold needI
  rw [List.range_succ, List.filter_append]
  by_cases h : X.any (prmN l us i) = true
  · rw [if_pos h, List.filter_cons_of_pos (p := fun k => X.any (prmN l us k)) h]
    simp only [List.filter_nil, List.map_append, List.map_cons, List.map_nil, List.sum_append, List.sum_cons, List.sum_nil]
    unfold plyN
    omega
  · rw [if_neg h, List.filter_cons_of_neg (p := fun k => X.any (prmN l us k)) h]
    simp
theorem needI_le {l : List GGrant} (hl : validG l = true) (us : List GUse) (X : List Nat) : ∀ i, i ≤ l.length → 0 ≤ needI l us X i ∧ needI l us X i ≤ 100 * i
  | 0, _ => by simp [needI]
  | i + 1, h => by
    have ih := needI_le hl us X i (by omega)
    have hp := plays_ok hl (i := (i : Int)) (by omega) (by omega)
    rw [needI_succ _ _ _ _ hp.1]
    split <;> omega
theorem any_take {p : Nat → Bool} {X : List Nat} {k : Nat} (h : k < X.length) : (X.take (k + 1)).any p = ((X.take k).any p || p (X.getD k 0)) := by
  rw [List.take_add_one, List.getElem?_eq_getElem h, List.any_append]
  simp [List.getD, List.getElem?_eq_getElem h]
theorem nth_iz2 {X : List Nat} {k : Nat} (h : k < X.length) : nth (iz X) (k : Int) = ((X.getD k 0 : Nat) : Int) := by
  unfold nth iz
  simp [List.getElem?_eq_getElem h, List.getD]
theorem sub_range {X : List Nat} {n : Nat} (h : X.Sublist (List.range n)) : (∀ k, k < X.length → X.getD k 0 < n) ∧ ∀ k, k + 1 < X.length → X.getD k 0 < X.getD (k + 1) 0 := by
  constructor
  · intro k hk
    have : X.getD k 0 ∈ X := by simp [List.getD, List.getElem?_eq_getElem hk]
    exact List.mem_range.1 (h.subset this)
  · intro k hk
    have hp : X.Pairwise (· < ·) := List.Pairwise.sublist h List.pairwise_lt_range
    have := List.pairwise_iff_getElem.1 hp k (k + 1) (by omega) hk (by omega)
    simp only [List.getD, List.getElem?_eq_getElem (show k < X.length by omega), List.getElem?_eq_getElem hk, Option.getD_some]
    exact this
end Go.Proofs.Ytfdjnadopniaeaa
