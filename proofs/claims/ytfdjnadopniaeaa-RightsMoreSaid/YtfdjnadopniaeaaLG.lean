import Derived.Test.YtfdjnadopniaeaaZA
namespace Go.Proofs.Ytfdjnadopniaeaa
open Go Go.Gx Go.RowKit
open Kuhn
set_option linter.unusedVariables false
set_option linter.unusedSimpArgs false
/-- The state of the plays after the first i uses of an assignment. -/
structure Lft (l : List GGrant) (us : List GUse) (ks : List Int) (i : Nat) (o : List Int) : Prop where
  is : leftF l us ks i = some o
  len : o.length = l.length
  rng : ∀ p ∈ o, 0 ≤ p ∧ p ≤ 100
  A : A (prmN l (us.drop i)) (plsN o) l.length (us.length - i) = true
  rest : ks.drop i = iz (greedy l.length (us.length - i) (prmN l (us.drop i)) (plsN o))
theorem drop_cons_nth {ks : List Int} {i : Nat} {k : Int} {r : List Int} (h : ks.drop i = k :: r) : nth ks (i : Int) = k ∧ ks.drop (i + 1) = r := by
  constructor
  · have := List.getElem?_drop (xs := ks) (i := i) (j := 0)
    rw [h] at this
    simp at this
    unfold nth
    simp [← this]
  · rw [← List.drop_drop, h]; rfl
/-- One step: the use i gets its grant, the plays of that grant go down by one. -/
structure StepL (l : List GGrant) (us : List GUse) (ks : List Int) (i : Nat) (o : List Int) (k : Int) : Prop where
  at_ : nth ks (i : Int) = k
  k0 : 0 ≤ k
  kl : k < l.length
  pm : permG (nth l k) (nth us (i : Int)) = true
  pos : 0 < nth o k
  next : Lft l us ks (i + 1) (o.set k.toNat (nth o k - 1))
  first : ∀ j : Int, 0 ≤ j → j < k → permG (nth l j) (nth us (i : Int)) = true → nth o j ≠ 0 → Kuhn.A (prmN l (us.drop (i + 1))) (dec (plsN o) j.toNat) l.length (us.length - (i + 1)) = false
theorem Lft.step {l : List GGrant} {us : List GUse} {ks : List Int} {i : Nat} {o : List Int} (h : Lft l us ks i o) (hi : i < us.length) : ∃ k, StepL l us ks i o k := by
  have hn : us.length - i = (us.length - (i + 1)) + 1 := by omega
  have hA := h.A
  have hr := h.rest
  rw [hn] at hA hr
  obtain ⟨k, hg, hk, hp, hpm, hA2, hbef⟩ := greedy_step hA
  rw [hg] at hr
  obtain ⟨e1, e2⟩ := drop_cons_nth (k := (k : Int)) hr
  have hpr0 : ∀ j : Int, 0 ≤ j → prmN l (us.drop i) j.toNat 0 = permG (nth l j) (nth us (i : Int)) := fun j hj => by
    have := prm0 l us (i := (i : Int)) (k := j) (by omega) hj
    simpa using this
  have hsh : shift (prmN l (us.drop i)) = prmN l (us.drop (i + 1)) := by
    have := prmN_drop l us (i : Int) (by omega)
    simpa using this.symm
  have hpos : 0 < nth o (k : Int) := by unfold plsN at hp; omega
  have hlen := h.len
  have hset := plsN_set o (k : Int) (by omega) (by omega)
  simp only [Int.toNat_natCast] at hset
  refine ⟨(k : Int), e1, by omega, by omega, by rw [← hpr0 _ (by omega)]; exact hpm, hpos, ⟨?_, by simp [hlen], ?_, ?_, ?_⟩, ?_⟩
  · unfold leftF
    rw [h.is]
    simp only [e1]
    rw [if_pos ⟨by omega, by omega, by rw [← hpr0 _ (by omega)]; exact hpm, by omega⟩]
  · have := h.rng _ (nth_mem (l := o) (i := (k : Int)) (by omega) (by omega))
    exact ps_set h.rng (by omega) (by omega)
  · rw [Int.toNat_natCast, hset, ← hsh]; exact hA2
  · rw [e2, Int.toNat_natCast, hset, ← hsh]
  · intro j hj hjk hpj hoj
    have hb := hbef j.toNat (by omega)
    unfold okK at hb
    rw [hpr0 j hj, hpj, hsh] at hb
    have : 0 < plsN o j.toNat := by
      have hj2 := h.rng _ (nth_mem (l := o) (i := j) hj (by omega))
      unfold plsN
      rw [Int.toNat_of_nonneg hj]
      omega
    simpa [this] using hb
theorem lft_zero {l : List GGrant} {us : List GUse} (hl : validG l = true) (ha : asgL l us = true) : Lft l us (iz (greedy l.length us.length (prmN l us) (plyN l))) 0 (playsL l) := by
  refine ⟨rfl, by simp [playsL], playsL_ok hl, ?_, ?_⟩
  · rw [plsN_playsL]; unfold asgL at ha; simpa using ha
  · rw [plsN_playsL]; simp
theorem lft_at {l : List GGrant} {us : List GUse} (hl : validG l = true) (ha : asgL l us = true) : ∀ i, i ≤ us.length → ∃ o, Lft l us (iz (greedy l.length us.length (prmN l us) (plyN l))) i o
  | 0, _ => ⟨_, lft_zero hl ha⟩
  | i + 1, hi => by
    obtain ⟨o, h⟩ := lft_at hl ha i (by omega)
    obtain ⟨k, hk⟩ := h.step (by omega)
    exact ⟨_, hk.next⟩
theorem nth_take {α : Type} [Inhabited α] (l : List α) (n : Nat) (i : Nat) (h : i < n) : nth (l.take n) (i : Int) = nth l (i : Int) := by
  unfold nth
  simp [List.getElem?_take, h]
theorem leftF_take {l : List GGrant} {us : List GUse} {ks : List Int} {n : Nat} : ∀ i, i ≤ n → leftF l (us.take n) (ks.take n) i = leftF l us ks i
  | 0, _ => rfl
  | i + 1, h => by
    unfold leftF
    rw [leftF_take i (by omega), nth_take _ _ _ (by omega), nth_take _ _ _ (by omega)]
theorem validU_take {us : List GUse} (h : validU us = true) (n : Nat) : validU (us.take n) = true := by
  unfold validU at h ⊢
  rw [Bool.and_eq_true, List.all_eq_true] at h ⊢
  have := of_decide_eq_true h.1
  exact ⟨decide_eq_true (by rw [List.length_take]; omega), fun u hu => h.2 u (List.mem_of_mem_take hu)⟩
theorem left_take {l : List GGrant} {us : List GUse} {ks o : List Int} {n : Nat} (hl : validG l = true) (hu : validU us = true) (h1 : n ≤ us.length) (h2 : n ≤ ks.length) (h : Lft l us ks n o) : leftI l (us.take n) (ks.take n) = o := by
  unfold leftI
  have e1 : (ks.take n).length = n := by rw [List.length_take]; omega
  have e2 : (us.take n).length = n := by rw [List.length_take]; omega
  rw [if_pos ⟨hl, validU_take hu n, by rw [e1, e2]⟩, e1, leftF_take n (Nat.le_refl _), h.is]; rfl
/-- The grants with the plays o, the first n. -/
def restN (l : List GGrant) (o : List Int) : Nat → List GGrant
  | 0 => l
  | n + 1 => setP (restN l o n) (n : Int) (nth o (n : Int))
theorem restN_len (l : List GGrant) (o : List Int) : ∀ n, (restN l o n).length = l.length
  | 0 => rfl
  | n + 1 => by rw [restN, setP_length, restN_len l o n]
theorem restN_nth (l : List GGrant) (o : List Int) : ∀ (n : Nat), n ≤ l.length → ∀ j : Int, 0 ≤ j → nth (restN l o n) j = if j < n then plG (nth l j) (nth o j) else nth l j
  | 0, _, j, hj => by rw [if_neg (by omega)]; rfl
  | n + 1, hn, j, hj => by
    rw [restN, nth_setP _ _ _ (by omega) (by rw [restN_len]; omega) _ hj, restN_nth l o n (by omega) _ (by omega), restN_nth l o n (by omega) j hj]
    by_cases e : j = n
    · subst e; rw [if_pos rfl, if_neg (by omega), if_pos (by omega)]
    · rw [if_neg e]
      by_cases c : j < n
      · rw [if_pos c, if_pos (by omega)]
      · rw [if_neg c, if_neg (by omega)]
theorem restN_valid {l : List GGrant} {o : List Int} (hl : validG l = true) (hr : ∀ p ∈ o, 0 ≤ p ∧ p ≤ 100) (ho : o.length = l.length) : ∀ (n : Nat), n ≤ l.length → validG (restN l o n) = true
  | 0, _ => hl
  | n + 1, hn => by
    have := hr _ (nth_mem (l := o) (i := (n : Int)) (by omega) (by omega))
    rw [restN]
    exact validG_set (restN_valid hl hr ho n (by omega)) (by omega) (by rw [restN_len]; omega) this.1 this.2
theorem restN_prm (l : List GGrant) (o : List Int) (us : List GUse) : ∀ (n : Nat), n ≤ l.length → prmN (restN l o n) us = prmN l us
  | 0, _ => rfl
  | n + 1, hn => by rw [restN, prmN_setP _ _ _ _ (by omega) (by rw [restN_len]; omega), restN_prm l o us n (by omega)]
theorem nth_out {α : Type} [Inhabited α] (l : List α) (k : Nat) (h : l.length ≤ k) : nth l (k : Int) = default := by
  unfold nth; simp [List.getElem?_eq_none h]
theorem restN_ply {l : List GGrant} {o : List Int} (ho : o.length = l.length) : plyN (restN l o l.length) = plsN o := by
  funext k
  unfold plyN plsN
  rw [restN_nth l o _ (Nat.le_refl _) _ (by omega)]
  by_cases c : (k : Int) < l.length
  · rw [if_pos c]; rfl
  · rw [if_neg c, nth_out l k (by omega), nth_out o k (by omega)]; rfl
end Go.Proofs.Ytfdjnadopniaeaa
