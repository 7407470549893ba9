import Derived.Test.YtfdjnadopniaeaaK3
namespace Go.Proofs.Ytfdjnadopniaeaa
open Go
open Kuhn
set_option linter.unusedVariables false
set_option linter.unusedSimpArgs false
section
variable {perm : Nat → Nat → Bool} {plays : Nat → Nat} {m : Nat}
/-- The uses of X alone. -/
def sub (perm : Nat → Nat → Bool) (X : List Nat) (k j : Nat) : Bool := perm k (X.getD j 0)
theorem need_map (f : Nat → Nat) (Y : List Nat) : need (fun k j => perm k (f j)) plays m Y = need perm plays m (Y.map f) := by
  unfold need
  congr 2
  apply List.filter_congr
  intro k _
  rw [List.any_map]; rfl
theorem getD_inj {X : List Nat} (h : X.Nodup) {i j : Nat} (hi : i < X.length) (hj : j < X.length) (e : X.getD i 0 = X.getD j 0) : i = j := by
  simp only [List.getD, List.getElem?_eq_getElem hi, List.getElem?_eq_getElem hj, Option.getD_some] at e
  rcases Nat.lt_trichotomy i j with c | c | c
  · exact absurd e (List.pairwise_iff_getElem.1 h i j hi hj c)
  · exact c
  · exact absurd e.symm (List.pairwise_iff_getElem.1 h j i hj hi c)
theorem lacks_up {n : Nat} {X Y : List Nat} (hX : X.Nodup) (hl : ∀ x ∈ X, x < n) (h : Lacks (sub perm X) plays m X.length Y) : Lacks perm plays m n (Y.map fun j => X.getD j 0) := by
  refine ⟨?_, fun x hx => ?_, ?_⟩
  · rw [List.Nodup, List.pairwise_map]
    refine List.Pairwise.imp_of_mem ?_ h.nd
    intro a b ha hb hab e
    exact hab (getD_inj hX (h.lt a ha) (h.lt b hb) e)
  · obtain ⟨j, hj, rfl⟩ := List.mem_map.1 hx
    have := h.lt j hj
    apply hl
    simp only [List.getD, List.getElem?_eq_getElem this, Option.getD_some]
    exact List.getElem_mem _
  · have := h.few
    rw [List.length_map]
    rw [← need_map]
    exact this
theorem getD_idx {X : List Nat} {z : Nat} (h : z ∈ X) : X.getD (X.idxOf z) 0 = z := by
  have := List.idxOf_lt_length_of_mem h
  simp only [List.getD, List.getElem?_eq_getElem this, Option.getD_some]
  exact List.getElem_idxOf this
theorem lacks_down {n : Nat} {X Z : List Nat} (hs : ∀ z ∈ Z, z ∈ X) (h : Lacks perm plays m n Z) : Lacks (sub perm X) plays m X.length (Z.map X.idxOf) := by
  refine ⟨?_, fun x hx => ?_, ?_⟩
  · rw [List.Nodup, List.pairwise_map]
    refine List.Pairwise.imp_of_mem ?_ h.nd
    intro a b ha hb hab e
    apply hab
    rw [← getD_idx (hs a ha), ← getD_idx (hs b hb), e]
  · obtain ⟨j, hj, rfl⟩ := List.mem_map.1 hx
    exact List.idxOf_lt_length_of_mem (hs j hj)
  · have := h.few
    rw [List.length_map]
    unfold sub
    rw [need_map, List.map_map]
    have e : Z.map ((fun j => X.getD j 0) ∘ X.idxOf) = Z := by
      conv => rhs; rw [← List.map_id Z]
      apply List.map_congr_left
      intro z hz
      exact getD_idx (hs z hz)
    rw [e]; exact this
theorem A_no {n : Nat} {X : List Nat} (h : Lacks perm plays m n X) : A perm plays m n = false := by
  cases e : A perm plays m n with
  | false => rfl
  | true => exact absurd h (A_iff.1 e X)
theorem A_lack {n : Nat} (h : A perm plays m n = false) : ∃ X, Lacks perm plays m n X := by
  apply Classical.byContradiction
  intro hn
  have := A_iff (perm := perm) (plays := plays) (m := m) (n := n) |>.2 (fun X hX => hn ⟨X, hX⟩)
  rw [h] at this; cases this
theorem least_all {n : Nat} {X : List Nat} (h : lackP perm plays m n = some X) : A (sub perm X) plays m X.length = false := by
  obtain ⟨h1, h2, h3⟩ := lackP_some h
  exact A_no (lacks_down (fun z hz => hz) (lackB_lacks h1 h2))
theorem least_some {n : Nat} {X : List Nat} {x : Nat} (h : lackP perm plays m n = some X) (hx : x ∈ X) : A (sub perm (X.filter (· ≠ x))) plays m (X.filter (· ≠ x)).length = true := by
  obtain ⟨h1, h2, h3⟩ := lackP_some h
  cases e : A (sub perm (X.filter (· ≠ x))) plays m (X.filter (· ≠ x)).length with
  | true => rfl
  | false =>
    exfalso
    obtain ⟨Y, hY⟩ := A_lack e
    have hL := lackB_lacks h1 h2
    have hnd : (X.filter (· ≠ x)).Nodup := hL.nd.sublist List.filter_sublist
    have hZ := lacks_up (n := n) hnd (fun z hz => hL.lt z (List.mem_filter.1 hz).1) hY
    have hs := lacks_sorted hZ
    have hlt : (X.filter (· ≠ x)).length < X.length := by
      have := List.length_filter_lt_length_iff_exists (p := fun z => decide (z ≠ x)) (l := X)
      exact this.2 ⟨x, hx, by simp⟩
    have hYl : Y.length ≤ (X.filter (· ≠ x)).length := by
      have := nodup_le (X := Y) (Y := List.range (X.filter (· ≠ x)).length) hY.nd (fun y hy => List.mem_range.2 (hY.lt y hy))
      simpa using this
    generalize hW : (List.range n).filter (fun z => (Y.map fun j => (X.filter (· ≠ x)).getD j 0).contains z) = W at hs
    have hWl : W.length ≤ Y.length := by
      have := nodup_le (X := W) (Y := Y.map fun j => (X.filter (· ≠ x)).getD j 0) (by rw [← hW]; exact List.nodup_range.sublist List.filter_sublist) (fun z hz => by
        rw [← hW] at hz
        have := (List.mem_filter.1 hz).2
        simpa [List.contains_iff_mem] using this)
      simpa using this
    have hWs : W.Sublist (List.range n) := by rw [← hW]; exact List.filter_sublist
    rcases h3 W hWs hs with e | e | e
    · rw [e] at hWl; omega
    · omega
    · omega
/-! ### Apart: uses that no grant has in common -/
theorem sum_if (p : Nat → Bool) (f : Nat → Nat) : ∀ (l : List Nat), ((l.filter p).map f).sum = (l.map fun k => if p k = true then f k else 0).sum
  | [] => rfl
  | a :: l => by
    have ih := sum_if p f l
    simp only [List.filter_cons, List.map_cons, List.sum_cons]
    cases h : p a <;> simp [ih]
theorem sum3 (f a b c : Nat → Nat) : ∀ (l : List Nat), (∀ k ∈ l, a k + b k + c k ≤ f k) → (l.map a).sum + (l.map b).sum + (l.map c).sum ≤ (l.map f).sum
  | [], _ => by simp
  | x :: l, h => by
    have ih := sum3 f a b c l (fun k hk => h k (List.mem_cons_of_mem _ hk))
    have := h x (List.mem_cons_self ..)
    simp only [List.map_cons, List.sum_cons]; omega
theorem len3 {item : Nat → Int} : ∀ (Z : List Nat), (∀ z ∈ Z, 0 ≤ item z ∧ item z ≤ 2) → (Z.filter fun z => decide (item z = 0)).length + (Z.filter fun z => decide (item z = 1)).length + (Z.filter fun z => decide (item z = 2)).length = Z.length
  | [], _ => rfl
  | z :: Z, h => by
    have ih := len3 Z (fun k hk => h k (List.mem_cons_of_mem _ hk))
    have h0 := h z (List.mem_cons_self ..)
    have : item z = 0 ∨ item z = 1 ∨ item z = 2 := by omega
    rcases this with e | e | e <;> simp [List.filter_cons, e] <;> omega
theorem apart {n : Nat} {item : Nat → Int} {gi : Nat → Int} (hi : ∀ z, z < n → 0 ≤ item z ∧ item z ≤ 2) (hg : ∀ k z, perm k z = true → gi k = item z) :
    A perm plays m n = true ↔ ∀ i : Int, 0 ≤ i → i ≤ 2 → A (sub perm ((List.range n).filter fun z => decide (item z = i))) plays m ((List.range n).filter fun z => decide (item z = i)).length = true := by
  constructor
  · intro h i _ _
    cases e : A (sub perm ((List.range n).filter fun z => decide (item z = i))) plays m ((List.range n).filter fun z => decide (item z = i)).length with
    | true => rfl
    | false =>
      obtain ⟨Y, hY⟩ := A_lack e
      exact absurd (lacks_up (n := n) (List.nodup_range.sublist List.filter_sublist) (fun z hz => List.mem_range.1 (List.mem_filter.1 hz).1) hY) (A_iff.1 h _)
  · intro h
    cases e : A perm plays m n with
    | true => rfl
    | false =>
      exfalso
      obtain ⟨Z, hZ⟩ := A_lack e
      have hsub : ∀ i, (0 ≤ i ∧ i ≤ 2) → ¬ need perm plays m (Z.filter fun z => decide (item z = i)) < (Z.filter fun z => decide (item z = i)).length := by
        intro i hi2 hf
        have hL : Lacks perm plays m n (Z.filter fun z => decide (item z = i)) := ⟨hZ.nd.sublist List.filter_sublist, fun x hx => hZ.lt x (List.mem_filter.1 hx).1, hf⟩
        exact absurd (lacks_down (X := (List.range n).filter fun z => decide (item z = i)) (fun z hz => List.mem_filter.2 ⟨List.mem_range.2 (hL.lt z hz), (List.mem_filter.1 hz).2⟩) hL) (A_iff.1 (h i hi2.1 hi2.2) _)
      have h0 := hsub 0 (by omega)
      have h1 := hsub 1 (by omega)
      have h2 := hsub 2 (by omega)
      have hl := len3 (item := item) Z (fun z hz => hi z (hZ.lt z hz))
      have hf := hZ.few
      have hn : need perm plays m (Z.filter fun z => decide (item z = 0)) + need perm plays m (Z.filter fun z => decide (item z = 1)) + need perm plays m (Z.filter fun z => decide (item z = 2)) ≤ need perm plays m Z := by
        unfold need
        rw [sum_if, sum_if, sum_if, sum_if]
        apply sum3
        intro k _
        have hany : ∀ i, (Z.filter fun z => decide (item z = i)).any (perm k) = true → Z.any (perm k) = true ∧ gi k = i := by
          intro i ha
          obtain ⟨z, hz, hp⟩ := List.any_eq_true.1 ha
          obtain ⟨hz1, hz2⟩ := List.mem_filter.1 hz
          exact ⟨List.any_eq_true.2 ⟨z, hz1, hp⟩, (hg k z hp).trans (by simpa using hz2)⟩
        by_cases c0 : (Z.filter fun z => decide (item z = 0)).any (perm k) = true <;> by_cases c1 : (Z.filter fun z => decide (item z = 1)).any (perm k) = true <;> by_cases c2 : (Z.filter fun z => decide (item z = 2)).any (perm k) = true <;> simp only [c0, c1, c2, if_true, if_false]
        all_goals first
          | (have a := (hany 0 c0).2; have b := (hany 1 c1).2; omega)
          | (have a := (hany 0 c0).2; have b := (hany 2 c2).2; omega)
          | (have a := (hany 1 c1).2; have b := (hany 2 c2).2; omega)
          | (rw [(hany 0 c0).1]; simp)
          | (rw [(hany 1 c1).1]; simp)
          | (rw [(hany 2 c2).1]; simp)
          | simp
      omega
/-! ### More grants, more plays -/
theorem getD_app1 {α : Type} (a b : List α) (k : Nat) (d : α) (h : k < a.length) : (a ++ b).getD k d = a.getD k d := by
  simp [List.getD, List.getElem?_append_left h]
theorem getD_app2 {α : Type} (a b : List α) (k : Nat) (d : α) (h : a.length ≤ k) : (a ++ b).getD k d = b.getD (k - a.length) d := by
  simp [List.getD, List.getElem?_append_right h]
theorem A_more {perm' : Nat → Nat → Bool} {plays' : Nat → Nat} {m' n : Nat} (h : A perm plays m n = true) (hm : m ≤ m') (hp : ∀ k, k < m → ∀ z, z < n → perm k z = true → perm' k z = true) (hy : ∀ k, k < m → plays k ≤ plays' k) : A perm' plays' m' n = true := by
  obtain ⟨g, hg⟩ := A_get h
  have gl := hg.gl
  refine A_of (g := g ++ List.replicate (m' - m) []) ⟨by simp; omega, fun k hk o ho => ?_, fun k hk => ?_, ?_⟩
  · by_cases c : k < m
    · rw [getD_app1 _ _ _ _ (by omega)] at ho
      exact hp k c o (List.mem_range.1 (hg.all.mem_iff.1 (by
        rw [flatten_range]
        exact List.mem_flatMap.2 ⟨k, List.mem_range.2 (by omega), ho⟩))) (hg.pm k c o ho)
    · rw [getD_app2 _ _ _ _ (by omega)] at ho
      simp [List.getD, List.getElem?_replicate] at ho
      split at ho <;> simp at ho
  · by_cases c : k < m
    · rw [getD_app1 _ _ _ _ (by omega)]
      exact Nat.le_trans (hg.cp k c) (hy k c)
    · rw [getD_app2 _ _ _ _ (by omega)]
      have : (List.replicate (m' - m) ([] : List Nat)).getD (k - g.length) [] = [] := by
        simp [List.getD, List.getElem?_replicate]
        split <;> rfl
      rw [this]; simp
  · rw [List.flatten_append]
    have : (List.replicate (m' - m) ([] : List Nat)).flatten = [] := by simp
    rw [this, List.append_nil]; exact hg.all
end
end Go.Proofs.Ytfdjnadopniaeaa
