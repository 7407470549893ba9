import Derived.Test.YtcbidfedffegpaaT
namespace Go.Proofs.Ytcbidfedffegpaa
open Go Go.Gx Go.RowKit
set_option linter.unusedVariables false
set_option linter.unusedSimpArgs false
/-- What becomes of an appearance when one is divided. -/
def cutD (l : List GAppearance) (W af : Int) (i : Nat) : List GAppearance :=
  if (i : Int) = W ∧ 1 < (nth l (i : Int)).Seconds then [⟨(nth l (i : Int)).Candidate, 2 * (nth l (i : Int)).At, 1 + pickI af ((nth l (i : Int)).Seconds - 1), (nth l (i : Int)).Weight⟩, ⟨(nth l (i : Int)).Candidate, 2 * (nth l (i : Int)).At + 1, (nth l (i : Int)).Seconds - (1 + pickI af ((nth l (i : Int)).Seconds - 1)), (nth l (i : Int)).Weight⟩]
  else [⟨(nth l (i : Int)).Candidate, 2 * (nth l (i : Int)).At, (nth l (i : Int)).Seconds, (nth l (i : Int)).Weight⟩]
def divD (l : List GAppearance) (W af : Int) : Nat → List GAppearance
  | 0 => []
  | i + 1 => divD l W af i ++ cutD l W af i
theorem cutD_tot (l : List GAppearance) (W af : Int) (i : Nat) (k : Int) : ctot k (cutD l W af i) = wtA k (nth l (i : Int)) := by
  unfold cutD
  split
  · simp only [ctot, wtA, worthA]
    by_cases h : (nth l (i : Int)).Candidate = k
    · simp only [if_pos h]
      generalize (nth l (i : Int)).Seconds = s
      generalize pickI af (s - 1) = p
      generalize (nth l (i : Int)).Weight = w
      rw [Int.sub_mul]; omega
    · simp only [if_neg h]; omega
  · simp only [ctot, wtA, worthA]
    by_cases h : (nth l (i : Int)).Candidate = k
    · simp only [if_pos h]; omega
    · simp only [if_neg h]; omega
theorem divD_tot (l : List GAppearance) (W af : Int) (k : Int) : ∀ i : Nat, i ≤ l.length → ctot k (divD l W af i) = ctot k (l.take i)
  | 0, _ => rfl
  | i + 1, hi => by
    have ih := divD_tot l W af k i (by omega)
    have hg := nth_get (l := l) (i := (i : Int)) (by omega) (by omega)
    rw [Int.toNat_natCast] at hg
    rw [divD, ctot_append, ih, cutD_tot, List.take_add_one, hg, ctot_append]
    simp [ctot]
theorem divD_len (l : List GAppearance) (W af : Int) : ∀ i : Nat, (divD l W af i).length ≤ i + (if W < (i : Int) ∧ 0 ≤ W then 1 else 0)
  | 0 => by simp [divD]
  | i + 1 => by
    have ih := divD_len l W af i
    rw [divD, List.length_append]
    unfold cutD
    by_cases h : (i : Int) = W ∧ 1 < (nth l (i : Int)).Seconds
    · rw [if_pos h]
      rw [if_neg (by omega)] at ih
      rw [if_pos (by omega)]; simp; omega
    · rw [if_neg h]
      by_cases h2 : W < (i : Int) ∧ 0 ≤ W
      · rw [if_pos h2] at ih; rw [if_pos (by omega)]; simp; omega
      · rw [if_neg h2] at ih; simp; split <;> omega
theorem cutD_el {n : Int} {l : List GAppearance} {W af : Int} (h : validA n l = true) {i : Nat} (hi : i < l.length) : (∀ a ∈ cutD l W af i, (0 ≤ a.Candidate ∧ a.Candidate < n) ∧ (2 * (nth l (i : Int)).At ≤ a.At ∧ a.At ≤ 2 * (nth l (i : Int)).At + 1) ∧ (1 ≤ a.Seconds ∧ a.Seconds ≤ 3600) ∧ (1 ≤ a.Weight ∧ a.Weight ≤ 10)) ∧ (cutD l W af i).Pairwise fun x y => x.At < y.At := by
  obtain ⟨h1, h2, h3, h4, h5⟩ := valid_el h hi
  unfold cutD
  split
  · rename_i hc
    have hp := pickI_range (c := af) (n := (nth l (i : Int)).Seconds - 1) (by omega)
    refine ⟨fun a ha => ?_, ?_⟩
    · rcases List.mem_cons.1 ha with rfl | ha
      · dsimp only; omega
      · rw [List.mem_singleton.1 ha]; dsimp only; omega
    · rw [List.pairwise_cons]
      refine ⟨fun y hy => ?_, List.pairwise_singleton _ _⟩
      rw [List.mem_singleton.1 hy]; dsimp only; omega
  · refine ⟨fun a ha => ?_, List.pairwise_singleton _ _⟩
    rw [List.mem_singleton.1 ha]; dsimp only; omega
theorem divD_el {n : Int} {l : List GAppearance} {W af : Int} (h : validA n l = true) : ∀ i : Nat, i ≤ l.length → (∀ a ∈ divD l W af i, (0 ≤ a.Candidate ∧ a.Candidate < n) ∧ (0 ≤ a.At ∧ a.At ≤ 2 * prevA l (i : Int) + 1) ∧ (1 ≤ a.Seconds ∧ a.Seconds ≤ 3600) ∧ (1 ≤ a.Weight ∧ a.Weight ≤ 10)) ∧ (divD l W af i).Pairwise fun x y => x.At < y.At
  | 0, _ => ⟨fun a ha => absurd ha List.not_mem_nil, List.Pairwise.nil⟩
  | i + 1, hi => by
    have ih := divD_el (W := W) (af := af) h i (by omega)
    have hc := cutD_el (W := W) (af := af) h (i := i) (by omega)
    obtain ⟨h1, h2, h3, h4, h5⟩ := valid_el h (m := i) (by omega)
    have hp : prevA l ((i + 1 : Nat) : Int) = (nth l (i : Int)).At := by unfold prevA; rw [if_neg (by omega), show (((i + 1 : Nat) : Int) - 1) = (i : Int) by omega]
    rw [divD, hp]
    refine ⟨fun a ha => ?_, List.pairwise_append.2 ⟨ih.2, hc.2, fun x hx y hy => ?_⟩⟩
    · rcases List.mem_append.1 ha with ha | ha
      · have := ih.1 a ha; omega
      · have := hc.1 a ha; omega
    · have a := ih.1 x hx; have b := hc.1 y hy; omega
theorem valid_pw {n : Int} {m : List GAppearance} (hn : 2 ≤ n ∧ n ≤ 8) (hl : m.length ≤ 60) (hel : ∀ a ∈ m, (0 ≤ a.Candidate ∧ a.Candidate < n) ∧ (0 ≤ a.At ∧ a.At ≤ 10000000) ∧ (1 ≤ a.Seconds ∧ a.Seconds ≤ 3600) ∧ (1 ≤ a.Weight ∧ a.Weight ≤ 10)) (hp : m.Pairwise fun x y => x.At < y.At) : validA n m = true := by
  refine valid_of hn hl (all_range fun j hj => ?_)
  have hg := nth_get (l := m) (i := (j : Int)) (by omega) (by omega)
  rw [Int.toNat_natCast] at hg
  have he := hel _ (List.mem_of_getElem? hg)
  have hpv : prevA m (j : Int) < (nth m (j : Int)).At := by
    unfold prevA
    split
    · omega
    · rename_i h0
      have hg2 := nth_get (l := m) (i := (j : Int) - 1) (by omega) (by omega)
      have e : ((j : Int) - 1).toNat = j - 1 := by omega
      rw [e] at hg2
      have hj1 : j - 1 < m.length := by omega
      have := List.pairwise_iff_getElem.1 hp (j - 1) j hj1 hj (by omega)
      have q1 : m[j - 1] = nth m ((j : Int) - 1) := Option.some.inj (by rw [← List.getElem?_eq_getElem hj1]; exact hg2)
      have q2 : m[j] = nth m (j : Int) := Option.some.inj (by rw [← List.getElem?_eq_getElem hj]; exact hg)
      rw [q1, q2] at this
      exact this
  unfold okAt ok1
  rw [decide_eq_true_eq]; omega
theorem divD_valid {n : Int} {l : List GAppearance} {W af : Int} (h : validA n l = true) (h20 : l.length ≤ 20) (hat : ∀ j : Nat, j < l.length → (nth l (j : Int)).At ≤ 2000000) : validA n (divD l W af l.length) = true := by
  have hv := valid_at h
  have he := divD_el (W := W) (af := af) h l.length (Nat.le_refl _)
  have hlen := divD_len l W af l.length
  have hpl : prevA l (l.length : Int) ≤ 2000000 := by
    unfold prevA; split
    · omega
    · have := hat (l.length - 1) (by omega); rwa [show ((l.length - 1 : Nat) : Int) = (l.length : Int) - 1 by omega] at this
  refine valid_pw ⟨hv.1, hv.2.1⟩ (by split at hlen <;> omega) (fun a ha => ?_) he.2
  have := he.1 a ha; omega
end Go.Proofs.Ytcbidfedffegpaa
