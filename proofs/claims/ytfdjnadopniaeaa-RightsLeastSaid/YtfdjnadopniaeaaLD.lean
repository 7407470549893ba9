import Derived.Test.YtfdjnadopniaeaaLB
import Derived.Test.YtfdjnadopniaeaaLC
namespace Go.Proofs.Ytfdjnadopniaeaa
open Go Go.Gx Go.RowKit
open Kuhn
set_option linter.unusedVariables false
set_option linter.unusedSimpArgs false
/-- The uses with these numbers. -/
def selL (us : List GUse) (s : List Int) : List GUse := s.map (nth us)
theorem A_congr {perm perm' : Nat → Nat → Bool} {plays : Nat → Nat} {m n : Nat} (h : ∀ k, k < m → ∀ z, z < n → perm k z = perm' k z) : A perm plays m n = A perm' plays m n := by
  rw [Bool.eq_iff_iff]
  constructor
  · intro ha; exact A_more ha (Nat.le_refl _) (fun k hk z hz e => by rw [← h k hk z hz]; exact e) (fun _ _ => Nat.le_refl _)
  · intro ha; exact A_more ha (Nat.le_refl _) (fun k hk z hz e => by rw [h k hk z hz]; exact e) (fun _ _ => Nat.le_refl _)
theorem nth_selL (us : List GUse) (X : List Nat) (z : Nat) (hz : z < X.length) : nth (selL us (iz X)) (z : Int) = nth us ((X.getD z 0 : Nat) : Int) := by
  unfold selL nth iz
  simp [List.getElem?_eq_getElem hz, List.getD]
theorem selL_len (us : List GUse) (s : List Int) : (selL us s).length = s.length := by simp [selL]
theorem asg_sel (l : List GGrant) (us : List GUse) (X : List Nat) : asgL l (selL us (iz X)) = A (sub (prmN l us) X) (plyN l) l.length X.length := by
  unfold asgL
  rw [selL_len, show (iz X).length = X.length by simp [iz]]
  apply A_congr
  intro k hk z hz
  unfold prmN sub
  rw [nth_selL us X z hz]
theorem validU_sel {us : List GUse} {s : List Int} (hu : validU us = true) (hs : ∀ x ∈ s, 0 ≤ x ∧ x < us.length) (hl : s.length ≤ us.length) : validU (selL us s) = true := by
  unfold validU at hu ⊢
  rw [Bool.and_eq_true, List.all_eq_true] at hu ⊢
  refine ⟨?_, fun u hu' => ?_⟩
  · have := of_decide_eq_true hu.1
    rw [selL_len]; exact decide_eq_true (by omega)
  · unfold selL at hu'
    obtain ⟨x, hx, rfl⟩ := List.mem_map.1 hu'
    exact hu.2 _ (nth_mem (hs x hx).1 (hs x hx).2)
theorem asn_code {l : List GGrant} {us : List GUse} (hl : validG l = true) (hu : validU us = true) : (asnI l us).2 = if asgL l us = true then 0 else 80 := by
  unfold asnI; simp only [hl, hu, true_and]
  by_cases h : asgL l us = true <;> simp [h]
theorem filter_iz (X : List Nat) (x : Nat) : (iz X).filter (fun z => decide (z ≠ (x : Int))) = iz (X.filter (· ≠ x)) := by
  unfold iz
  rw [List.filter_map]
  congr 1
  apply List.filter_congr
  intro z _
  simp only [Function.comp, ne_eq, decide_not, Int.natCast_inj]
theorem lack_sel {l : List GGrant} {us : List GUse} {s : List Int} (hl : validG l = true) (hu : validU us = true) (h : lackI l us = (s, true)) :
    0 < s.length ∧ s.length ≤ us.length ∧ s.Nodup ∧ (∀ x ∈ s, 0 ≤ x ∧ x < us.length) ∧ (asnI l (selL us s)).2 = 80 ∧ ∀ x ∈ s, (asnI l (selL us (s.filter fun z => decide (z ≠ x)))).2 = 0 := by
  unfold lackI at h
  rw [if_pos ⟨hl, hu⟩] at h
  cases hX : lackP (prmN l us) (plyN l) l.length us.length with
  | none => rw [hX] at h; cases h
  | some X =>
    rw [hX] at h
    cases h
    obtain ⟨h1, h2, h3⟩ := lackP_some hX
    have hL := lackB_lacks h1 h2
    have hr : ∀ x ∈ iz X, 0 ≤ x ∧ x < us.length := fun x hx => mem_iz (fun z hz => hL.lt z hz) hx
    have hle : X.length ≤ us.length := by simpa using h1.length_le
    have hpos : 0 < X.length := by have := hL.few; omega
    have hlen : (iz X).length = X.length := by simp [iz]
    refine ⟨by omega, by omega, ?_, hr, ?_, ?_⟩
    · unfold iz
      rw [List.Nodup, List.pairwise_map]
      exact hL.nd.imp fun hab e => hab (by exact_mod_cast e)
    · rw [asn_code hl (validU_sel hu hr (by omega)), asg_sel, least_all hX]; rfl
    · intro x hx
      obtain ⟨y, hy, rfl⟩ := List.mem_map.1 hx
      rw [asn_code hl (validU_sel hu (fun z hz => hr z (List.mem_filter.1 hz).1) (Nat.le_trans (List.length_filter_le _ _) (by omega))), filter_iz, asg_sel, least_some hX hy]; rfl
theorem filter_sel {us : List GUse} (p : GUse → Bool) : us.filter p = selL us (iz ((List.range us.length).filter fun z => p (nth us (z : Int)))) := by
  unfold selL iz
  rw [List.map_map]
  have e : us = (List.range us.length).map fun z : Nat => nth us (z : Int) := by
    apply List.ext_getElem?
    intro i
    by_cases h : i < us.length
    · simp [h, nth]
    · simp [h]
  conv => lhs; rw [e]
  rw [List.filter_map]; rfl
theorem apart_iff {l : List GGrant} {us : List GUse} (hi : ∀ u ∈ us, 0 ≤ u.Item ∧ u.Item ≤ 2) : asgL l us = true ↔ (asgL l (us.filter fun u => decide (u.Item = 0)) = true ∧ asgL l (us.filter fun u => decide (u.Item = 1)) = true ∧ asgL l (us.filter fun u => decide (u.Item = 2)) = true) := by
  have h := apart (perm := prmN l us) (plays := plyN l) (m := l.length) (n := us.length) (item := fun z => (nth us (z : Int)).Item) (gi := fun k => (nth l (k : Int)).Item) (fun z hz => hi _ (nth_mem (by omega) (by omega))) (fun k z hp => by
    unfold prmN permG at hp
    simp only [Bool.and_eq_true, decide_eq_true_eq] at hp
    exact hp.1.1.1.1)
  rw [filter_sel, filter_sel, filter_sel, asg_sel, asg_sel, asg_sel]
  constructor
  · intro ha
    have := h.1 ha
    exact ⟨this 0 (by omega) (by omega), this 1 (by omega) (by omega), this 2 (by omega) (by omega)⟩
  · rintro ⟨a0, a1, a2⟩
    apply h.2
    intro i h0 h2
    have : i = 0 ∨ i = 1 ∨ i = 2 := by omega
    rcases this with rfl | rfl | rfl
    · exact a0
    · exact a1
    · exact a2
end Go.Proofs.Ytfdjnadopniaeaa
