import Derived.Test.YtfdjnadopniaeaaGxJ3
import Derived.Test.YtfdjnadopniaeaaLC
import Derived.Test.YtfdjnadopniaeaaLH
namespace Go.Proofs.Ytfdjnadopniaeaa
open Go Go.Gx Go.RowKit
open Kuhn
set_option linter.unusedVariables false
set_option linter.unusedSimpArgs false
theorem sum_set (o : List Int) (k : Nat) (x : Int) (h : k < o.length) : (o.set k x).sum = o.sum - o.getD k 0 + x := by
  induction o generalizing k with
  | nil => simp at h
  | cons a o ih =>
    cases k with
    | zero => simp [List.getD]; omega
    | succ k =>
      have := ih k (by simpa using h)
      simp [List.getD] at this ⊢
      omega
theorem lft_sum {l : List GGrant} {us : List GUse} (hl : validG l = true) (ha : asgL l us = true) : ∀ i, i ≤ us.length → ∃ o, Lft l us (iz (greedy l.length us.length (prmN l us) (plyN l))) i o ∧ o.sum + i = (playsL l).sum
  | 0, _ => ⟨_, lft_zero hl ha, by simp⟩
  | i + 1, hi => by
    obtain ⟨o, h, hs⟩ := lft_sum hl ha i (by omega)
    obtain ⟨k, st⟩ := h.step (by omega)
    refine ⟨_, st.next, ?_⟩
    have h1 := st.k0
    have h2 := st.kl
    have h3 := h.len
    have h4 : o.getD k.toNat 0 = nth o k := rfl
    rw [sum_set _ _ _ (by omega), h4]
    omega
theorem sum_take {o : List Int} {k : Nat} (h : k < o.length) : (o.take (k + 1)).sum = (o.take k).sum + nth o (k : Int) := by
  have := take_nth (l := o) (i := (k : Int)) (by omega) (by omega)
  rw [show ((k : Int) + 1).toNat = k + 1 by omega, show ((k : Int)).toNat = k by omega] at this
  rw [this, List.sum_append]; simp
theorem left_none {l : List GGrant} {us : List GUse} (ha : asgL l us = false) : leftI l us [] = [] := by
  unfold leftI
  rw [if_neg]
  rintro ⟨_, _, h⟩
  have : us = [] := List.length_eq_zero_iff.1 h.symm
  subst this
  unfold asgL A at ha
  simp [kuhn] at ha
theorem nth_appL (l m : List GGrant) (k : Nat) (h : k < l.length) : nth (l ++ m) (k : Int) = nth l (k : Int) := by
  unfold nth; simp [List.getD, List.getElem?_append_left h]
theorem asg_append {l m : List GGrant} {us : List GUse} (ha : asgL l us = true) : asgL (l ++ m) us = true := by
  unfold asgL at ha ⊢
  refine A_more ha (by simp) (fun k hk z hz h => ?_) (fun k hk => ?_)
  · unfold prmN at h ⊢; rw [nth_appL _ _ _ hk]; exact h
  · unfold plyN; rw [nth_appL _ _ _ hk]; exact Nat.le_refl _
theorem asg_rich {l : List GGrant} {us : List GUse} {k : Int} (ha : asgL l us = true) (h0 : 0 ≤ k) (h : k < l.length) : asgL (setP l k ((nth l k).Plays + 1)) us = true := by
  unfold asgL at ha ⊢
  rw [setP_length, prmN_setP _ _ _ _ h0 h]
  refine A_more ha (Nat.le_refl _) (fun k hk z hz h => h) (fun j hj => ?_)
  unfold plyN
  rw [nth_setP _ _ _ h0 h _ (by omega)]
  split
  · rename_i e; rw [e]; show _ ≤ ((nth l k).Plays + 1).toNat; omega
  · exact Nat.le_refl _
theorem made_plays (xs : List GArr5Int) : ∀ g ∈ madeG xs, 0 ≤ g.Plays ∧ g.Plays ≤ 3 := fun g hg => by
  unfold madeG at hg
  obtain ⟨x, hx, rfl⟩ := List.mem_map.1 hg
  have := pickI_range (c := x.a3) (n := 4) (by omega)
  show 0 ≤ pickI x.a3 4 ∧ pickI x.a3 4 ≤ 3
  omega
theorem valid_append {l m : List GGrant} (h1 : validG l = true) (h2 : validG m = true) (h : l.length + m.length ≤ 12) : validG (l ++ m) = true := by
  unfold validG at h1 h2 ⊢
  rw [Bool.and_eq_true] at h1 h2 ⊢
  exact ⟨decide_eq_true (by simpa using h), by rw [List.all_append, h1.2, h2.2]; rfl⟩
end Go.Proofs.Ytfdjnadopniaeaa
