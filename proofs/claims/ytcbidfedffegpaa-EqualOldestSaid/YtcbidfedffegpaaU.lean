import Derived.Test.YtcbidfedffegpaaS
namespace Go.Proofs.Ytcbidfedffegpaa
open Go Go.Gx Go.RowKit
set_option linter.unusedVariables false
set_option linter.unusedSimpArgs false
theorem nth_takeA {l : List GAppearance} {m i : Nat} (h : i < m) : nth (l.take m) (i : Int) = nth l (i : Int) := by
  unfold nth; rw [Int.toNat_natCast, List.getD_eq_getElem?_getD, List.getD_eq_getElem?_getD, List.getElem?_take_of_lt h]
theorem openC_take {n : Int} {l : List GAppearance} {now : Int} {m : Nat} : ∀ i : Nat, i ≤ m → openC n (l.take m) now i = openC n l now i
  | 0, _ => rfl
  | i + 1, hi => by
    have ih := openC_take (n := n) (l := l) (now := now) (m := m) i (by omega)
    unfold openC; rw [nth_takeA (by omega), ih]
theorem openC_stay {n : Int} {l : List GAppearance} {now : Int} {m : Nat} (h : ∀ j : Nat, m ≤ j → j < l.length → now < (nth l (j : Int)).At) : ∀ d : Nat, m + d ≤ l.length → openC n l now (m + d) = openC n l now m
  | 0, _ => rfl
  | d + 1, hd => by
    have ih := openC_stay (n := n) h d (by omega)
    have := h (m + d) (by omega) (by omega)
    rw [show m + (d + 1) = (m + d) + 1 by omega, openC, if_neg (by omega), ih]
theorem openC_now {n : Int} {l : List GAppearance} {now now' : Int} {m : Nat} (h : ∀ j : Nat, j < m → (nth l (j : Int)).At ≤ now ∧ (nth l (j : Int)).At ≤ now') : ∀ i : Nat, i ≤ m → openC n l now i = openC n l now' i
  | 0, _ => rfl
  | i + 1, hi => by
    have ih := openC_now (n := n) h i (by omega)
    have := h i (by omega)
    unfold openC; rw [if_pos this.1, if_pos this.2, ih]
theorem valid_take {n : Int} {l : List GAppearance} (h : validA n l = true) (m : Nat) : validA n (l.take m) = true := by
  have hv := valid_at h
  refine valid_of ⟨hv.1, hv.2.1⟩ (by rw [List.length_take]; omega) (all_range fun j hj => ?_)
  rw [List.length_take] at hj
  have := hv.2.2.2 j (by omega)
  unfold okAt
  rw [nth_takeA (by omega)]
  have hp : prevA (l.take m) (j : Int) = prevA l (j : Int) := by
    unfold prevA
    split
    · rfl
    · rw [show ((j : Int) - 1) = ((j - 1 : Nat) : Int) by omega, nth_takeA (by omega)]
  rw [hp]; exact this
theorem at_lt {n : Int} {l : List GAppearance} (h : validA n l = true) {i : Nat} : ∀ d : Nat, i + d + 1 < l.length + 0 → (nth l (i : Int)).At < (nth l ((i + d + 1 : Nat) : Int)).At
  | 0, hd => by
    obtain ⟨_, _, _, _, h5⟩ := valid_el h (m := i + 1) (by omega)
    unfold prevA at h5
    rw [if_neg (by omega), show (((i + 1 : Nat) : Int) - 1) = (i : Int) by omega] at h5
    exact h5
  | d + 1, hd => by
    have ih := at_lt h (i := i) d (by omega)
    obtain ⟨_, _, _, _, h5⟩ := valid_el h (m := i + d + 1 + 1) (by omega)
    unfold prevA at h5
    rw [if_neg (by omega), show (((i + d + 1 + 1 : Nat) : Int) - 1) = ((i + d + 1 : Nat) : Int) by omega] at h5
    rw [show i + (d + 1) + 1 = i + d + 1 + 1 by omega]; omega
theorem at_mono {n : Int} {l : List GAppearance} (h : validA n l = true) {i j : Nat} (hij : i < j) (hj : j < l.length) : (nth l (i : Int)).At < (nth l (j : Int)).At := by
  have := at_lt h (i := i) (j - i - 1) (by omega)
  rwa [show i + (j - i - 1) + 1 = j by omega] at this
theorem openC_src {n : Int} {l : List GAppearance} {now : Int} (h : validA n l = true) : ∀ m : Nat, m ≤ l.length → ∀ c ∈ openC n l now m, ∃ i : Nat, i < m ∧ c.Of = (i : Int) ∧ c.Until = (nth l (i : Int)).At + 604800 ∧ (nth l (i : Int)).At ≤ now ∧ c.Candidate ≠ (nth l (i : Int)).Candidate
  | 0, _ => fun c hc => absurd hc List.not_mem_nil
  | m + 1, hm => fun c hc => by
    have ih := openC_src (now := now) h m (by omega)
    obtain ⟨h1, h2, h3, h4, h5⟩ := valid_el h (m := m) (by omega)
    have hw := worth_bound h3 h4
    have hok := openC_ok (now := now) h m (by omega)
    unfold openC at hc
    split at hc
    · rename_i hat
      unfold stepC at hc
      rcases List.mem_append.1 hc with hc | hc
      · obtain ⟨x, hx, e1, e2, e3, _⟩ := (passC_mem (k := (nth l (m : Int)).Candidate) _ (worthA (nth l (m : Int))) (by omega) hok.rest).1 c hc
        obtain ⟨i, hi, f1, f2, f3, f4⟩ := ih x hx
        exact ⟨i, by omega, by rw [e2]; exact f1, by rw [e3]; exact f2, f3, by rw [e1]; exact f4⟩
      · have := newC_mem hc
        exact ⟨m, by omega, this.2.2.2.2.1, this.2.2.2.2.2.2, hat, this.2.2.2.1⟩
    · obtain ⟨i, hi, f⟩ := ih c hc
      exact ⟨i, by omega, f⟩
theorem until_pw {n : Int} {l : List GAppearance} {now : Int} (h : validA n l = true) {m : Nat} (hm : m ≤ l.length) : (openC n l now m).Pairwise fun x y => x.Until ≤ y.Until := by
  have hs := openC_src (now := now) h m hm
  refine List.Pairwise.imp_of_mem ?_ (openC_ok (now := now) h m hm).pw
  intro x y hx hy hxy
  obtain ⟨i, hi, f1, f2, _⟩ := hs x hx
  obtain ⟨j, hj, g1, g2, _⟩ := hs y hy
  unfold ltP at hxy
  by_cases e : i = j
  · subst e; omega
  · have : i < j := by omega
    have := at_mono h this (by omega)
    omega
theorem kept_prefix {t : Int} : ∀ {cl : List GClaim}, (cl.Pairwise fun x y => x.Until ≤ y.Until) → kept t cl = cl.take (kept t cl).length
  | [], _ => rfl
  | x :: cl, hp => by
    rw [List.pairwise_cons] at hp
    have ih := kept_prefix (t := t) hp.2
    by_cases h : x.Until < t
    · have e : kept t (x :: cl) = x :: kept t cl := by unfold kept; rw [List.filter_cons, if_pos (by simpa using h)]
      rw [e, List.length_cons, List.take_succ_cons, ← ih]
    · have e : kept t (x :: cl) = [] := by
        unfold kept; rw [List.filter_eq_nil_iff]
        intro y hy
        rcases List.mem_cons.1 hy with rfl | hy
        · simpa using h
        · have := hp.1 y hy; simp; omega
      rw [e]; rfl
theorem kept_kept {t1 t2 : Int} (h : t1 ≤ t2) (cl : List GClaim) : kept t1 (kept t2 cl) = kept t1 cl := by
  unfold kept; rw [List.filter_filter]
  refine List.filter_congr fun c _ => ?_
  by_cases h1 : c.Until < t1
  · have : c.Until < t2 := by omega
    simp [h1, this]
  · simp [h1]
theorem kept_two {t1 t2 : Int} (h : t1 ≤ t2) {cl : List GClaim} (hp : cl.Pairwise fun x y => x.Until ≤ y.Until) : kept t1 cl = (kept t2 cl).take (kept t1 cl).length ∧ (kept t1 cl).length ≤ (kept t2 cl).length ∧ kept t2 cl = cl.take (kept t2 cl).length ∧ (kept t2 cl).length ≤ cl.length := by
  have hp2 : (kept t2 cl).Pairwise fun x y => x.Until ≤ y.Until := hp.filter _
  have h1 := kept_prefix (t := t1) hp2
  rw [kept_kept h] at h1
  refine ⟨h1, ?_, kept_prefix hp, List.length_filter_le _ _⟩
  have := congrArg List.length h1
  rw [List.length_take] at this
  omega
end Go.Proofs.Ytcbidfedffegpaa
