import Derived.Test.YtgphmhpcaeiglaaI
namespace Go.Proofs.Ytgphmhpcaeiglaa
open Go Go.Gx Go.RowKit
set_option linter.unusedVariables false
set_option linter.unusedSimpArgs false

def insideI (l : List GSpell) (s : Int) : Int := match l with
  | [] => 0
  | x :: r => (if x.From ≤ s ∧ s < x.To then 1 else 0) + insideI r s
theorem inside_snoc (l : List GSpell) (x : GSpell) (s : Int) : insideI (l ++ [x]) s = insideI l s + (if x.From ≤ s ∧ s < x.To then 1 else 0) := by
  induction l with
  | nil => simp [insideI]
  | cons a r ih => simp only [List.cons_append, insideI, ih]; omega
theorem inside_range (l : List GSpell) (s : Int) : 0 ≤ insideI l s ∧ insideI l s ≤ l.length := by
  induction l with
  | nil => simp [insideI]
  | cons a r ih => simp only [insideI, List.length_cons]; split <;> omega
theorem inside_far (l : List GSpell) : ∃ B : Int, ∀ s, B ≤ s → insideI l s = 0 := by
  induction l with
  | nil => exact ⟨0, fun s _ => rfl⟩
  | cons a r ih =>
    obtain ⟨B, hB⟩ := ih
    refine ⟨max B a.To, fun s hs => ?_⟩
    simp only [insideI, hB s (by omega)]
    rw [if_neg (by omega)]; rfl
def AgreeOK (l : List GSpell) (f t k : Int) : Prop :=
  (k = 0 ∧ f = 0 ∧ t = 0 ∧ ∀ s, insideI l s = 0) ∨
  (0 < k ∧ (∀ s, insideI l s ≤ k) ∧ insideI l f = k ∧ (∀ s, s < f → insideI l s < k) ∧ f < t ∧ (∀ s, f ≤ s → s < t → insideI l s = k) ∧ insideI l t < k)
theorem agree_unique {l : List GSpell} {f t k f' t' k' : Int} (h : AgreeOK l f t k) (h' : AgreeOK l f' t' k') : f = f' ∧ t = t' ∧ k = k' := by
  rcases h with ⟨a1, a2, a3, a4⟩ | ⟨a1, a2, a3, a4, a5, a6, a7⟩ <;> rcases h' with ⟨b1, b2, b3, b4⟩ | ⟨b1, b2, b3, b4, b5, b6, b7⟩
  · omega
  · have := a4 f'; omega
  · have := b4 f; omega
  · have hk : k = k' := by have := a2 f'; have := b2 f; omega
    subst hk
    have hf : f = f' := by
      rcases Int.lt_trichotomy f f' with h | h | h
      · have := b4 f h; omega
      · exact h
      · have := a4 f' h; omega
    subst hf
    refine ⟨rfl, ?_, rfl⟩
    rcases Int.lt_trichotomy t t' with h | h | h
    · have := b6 t (by omega) h; omega
    · exact h
    · have := a6 t' (by omega) h; omega

def edgesI (l : List GSpell) : List GEdge := l.flatMap fun x => if x.From < x.To then [⟨x.From, 1⟩, ⟨x.To, -1⟩] else []
theorem edges_snoc (l : List GSpell) (x : GSpell) : edgesI (l ++ [x]) = edgesI l ++ (if x.From < x.To then [⟨x.From, 1⟩, ⟨x.To, -1⟩] else []) := by simp [edgesI]
theorem edges_len (l : List GSpell) : (edgesI l).length ≤ 2 * l.length := by
  induction l with
  | nil => simp [edgesI]
  | cons a r ih => simp only [edgesI, List.flatMap_cons, List.length_append, List.length_cons] at *; split <;> simp only [List.length_cons, List.length_nil] <;> omega
theorem edges_by (l : List GSpell) : ∀ e ∈ edgesI l, e.by_ = 1 ∨ e.by_ = -1 := by
  intro e he
  simp only [edgesI, List.mem_flatMap] at he
  obtain ⟨x, _, hx⟩ := he
  split at hx
  · simp at hx; rcases hx with rfl | rfl <;> simp
  · cases hx
/-- What the edges up to second s add. -/
def sumE (E : List GEdge) (s : Int) : Int := match E with
  | [] => 0
  | e :: r => (if e.at_ ≤ s then e.by_ else 0) + sumE r s
def sumBy (E : List GEdge) : Int := match E with
  | [] => 0
  | e :: r => e.by_ + sumBy r
theorem sumE_append (E F : List GEdge) (s : Int) : sumE (E ++ F) s = sumE E s + sumE F s := by
  induction E with
  | nil => simp [sumE]
  | cons a r ih => simp only [List.cons_append, sumE, ih]; omega
theorem sumE_inside (l : List GSpell) (s : Int) : sumE (edgesI l) s = insideI l s := by
  induction l with
  | nil => rfl
  | cons x r ih =>
    have e : edgesI (x :: r) = (if x.From < x.To then [⟨x.From, 1⟩, ⟨x.To, -1⟩] else []) ++ edgesI r := by simp [edgesI]
    rw [e, sumE_append, ih, insideI]
    split
    · simp only [sumE]; (repeat' split) <;> omega
    · simp only [sumE]; (repeat' split) <;> omega
theorem sumE_perm {E F : List GEdge} (h : E.Perm F) (s : Int) : sumE E s = sumE F s := by
  induction h with
  | nil => rfl
  | cons x _ ih => simp only [sumE, ih]
  | swap x y l => simp only [sumE]; omega
  | trans _ _ h1 h2 => rw [h1, h2]
theorem sumBy_snoc (E : List GEdge) (e : GEdge) : sumBy (E ++ [e]) = sumBy E + e.by_ := by
  induction E with
  | nil => simp [sumBy]
  | cons a r ih => simp only [List.cons_append, sumBy, ih]; omega
theorem sumE_all {E : List GEdge} {s : Int} (h : ∀ e ∈ E, e.at_ ≤ s) : sumE E s = sumBy E := by
  induction E with
  | nil => rfl
  | cons a r ih => simp only [sumE, sumBy]; rw [if_pos (h a (List.mem_cons_self ..)), ih fun e he => h e (List.mem_cons_of_mem _ he)]
theorem sumE_none {E : List GEdge} {s : Int} (h : ∀ e ∈ E, s < e.at_) : sumE E s = 0 := by
  induction E with
  | nil => rfl
  | cons a r ih =>
    have := h a (List.mem_cons_self ..)
    simp only [sumE]; rw [if_neg (by omega), ih fun e he => h e (List.mem_cons_of_mem _ he)]; rfl
def SortedE (E : List GEdge) : Prop := E.Pairwise fun x y => x.at_ ≤ y.at_
theorem sorted_le {E : List GEdge} (h : SortedE E) {i j : Int} (i0 : 0 ≤ i) (hij : i ≤ j) (hj : j < E.length) : (nth E i).at_ ≤ (nth E j).at_ := by
  by_cases e : i = j
  · rw [e]; exact Int.le_refl _
  · have hp := List.pairwise_iff_getElem.1 h i.toNat j.toNat (by omega) (by omega) (by omega)
    have e1 := nth_get (l := E) i0 (by omega)
    have e2 := nth_get (l := E) (i := j) (by omega) hj
    rw [List.getElem?_eq_getElem (by omega)] at e1 e2
    rw [← Option.some.inj e1, ← Option.some.inj e2]; exact hp
/-- The edges before place i end at s or before it, those from i on later. -/
theorem sumE_at {E : List GEdge} (h : SortedE E) {i s : Int} (i0 : 0 ≤ i) (hi : i ≤ E.length) (h1 : 0 < i → (nth E (i - 1)).at_ ≤ s) (h2 : i < E.length → s < (nth E i).at_) : sumE E s = sumBy (E.take i.toNat) := by
  rw [← List.take_append_drop i.toNat E, sumE_append, List.take_append_drop]
  have a : sumE (E.take i.toNat) s = sumBy (E.take i.toNat) := sumE_all fun e he => by
    obtain ⟨j, hj⟩ := List.getElem?_of_mem he
    have hjl := (List.getElem?_eq_some_iff.1 hj).1
    rw [List.length_take] at hjl
    rw [List.getElem?_take_of_lt (by omega)] at hj
    have e1 := nth_get (l := E) (i := (j : Int)) (by omega) (by omega)
    rw [show ((j : Int)).toNat = j by omega, hj] at e1
    rw [Option.some.inj e1]
    have := sorted_le h (i := j) (j := i - 1) (by omega) (by omega) (by omega)
    have := h1 (by omega)
    omega
  have b : sumE (E.drop i.toNat) s = 0 := sumE_none fun e he => by
    obtain ⟨j, hj⟩ := List.getElem?_of_mem he
    rw [List.getElem?_drop] at hj
    have hjl := (List.getElem?_eq_some_iff.1 hj).1
    have e1 := nth_get (l := E) (i := i + (j : Int)) (by omega) (by omega)
    rw [show (i + (j : Int)).toNat = i.toNat + j by omega, hj] at e1
    rw [Option.some.inj e1]
    have := sorted_le h (i := i) (j := i + j) (by omega) (by omega) (by omega)
    have := h2 (by omega)
    omega
  rw [a, b, Int.add_zero]

/-- What is known of the seconds H. -/
def KA (N : Int → Int) (H : Int → Prop) (m : Int) (o : Bool) (f t : Int) : Prop :=
  (∀ s, H s → N s ≤ m) ∧ 0 ≤ m ∧ ((m = 0 ∧ o = false ∧ f = 0 ∧ t = 0) ∨
    (0 < m ∧ H f ∧ N f = m ∧ (∀ s, s < f → N s < m) ∧ ((o = true ∧ ∀ s, f ≤ s → H s → N s = m) ∨ (o = false ∧ f < t ∧ H t ∧ (∀ s, f ≤ s → s < t → N s = m) ∧ N t < m))))
theorem KA_step {N : Int → Int} {H H' : Int → Prop} {m now a f t : Int} {o : Bool} (hK : KA N H m o f t) (hH : ∀ s, H s ↔ s < a) (hn : ∀ s, H' s → ¬ s < a → N s = now) (hs : ∀ s, s < a → H' s) (ha : H' a) :
    (m < now → KA N H' now true a t) ∧ (o = true → now < m → KA N H' m false f a) ∧ (¬ m < now → ¬ (o = true ∧ now < m) → KA N H' m o f t) := by
  obtain ⟨k1, k2, k3⟩ := hK
  have hNa : N a = now := hn a ha (by omega)
  refine ⟨fun h => ⟨fun s h' => ?_, by omega, .inr ⟨by omega, ha, hNa, fun s hs' => ?_, .inl ⟨rfl, fun s h1 h2 => hn s h2 (by omega)⟩⟩⟩, fun ho h => ?_, fun h1 h2 => ⟨fun s h' => ?_, k2, ?_⟩⟩
  · by_cases c : s < a
    · have := k1 s ((hH s).2 c); omega
    · have := hn s h' c; omega
  · have := k1 s ((hH s).2 hs'); omega
  · rcases k3 with k3 | ⟨k3, k4, k5, k6, k7⟩
    · rw [k3.2.1] at ho; cases ho
    · rcases k7 with ⟨_, k8⟩ | ⟨k8, _⟩
      · have hfa := (hH f).1 k4
        refine ⟨fun s h' => ?_, k2, .inr ⟨k3, hs f hfa, k5, k6, .inr ⟨rfl, hfa, ha, fun s h1 h2 => k8 s h1 ((hH s).2 h2), by omega⟩⟩⟩
        by_cases c : s < a
        · exact k1 s ((hH s).2 c)
        · have := hn s h' c; omega
      · rw [k8] at ho; cases ho
  · by_cases c : s < a
    · exact k1 s ((hH s).2 c)
    · have := hn s h' c; omega
  · rcases k3 with k3 | ⟨k3, k4, k5, k6, k7⟩
    · exact .inl k3
    · have hfa := (hH f).1 k4
      refine .inr ⟨k3, hs f hfa, k5, k6, ?_⟩
      rcases k7 with ⟨ho, k8⟩ | ⟨ho, k8, k9, k10, k11⟩
      · refine .inl ⟨ho, fun s h1' h2' => ?_⟩
        by_cases c : s < a
        · exact k8 s h1' ((hH s).2 c)
        · have := hn s h2' c
          have : ¬ now < m := fun hh => h2 ⟨ho, hh⟩
          omega
      · exact .inr ⟨ho, k8, hs t ((hH t).1 k9), k10, k11⟩
theorem KA_end {l : List GSpell} {H : Int → Prop} {m f t : Int} {o : Bool} (hK : KA (insideI l) H m o f t) (hH : ∀ s, H s) : AgreeOK l f t m := by
  obtain ⟨k1, k2, k3⟩ := hK
  rcases k3 with ⟨k3, _, k5, k6⟩ | ⟨k3, k4, k5, k6, k7⟩
  · exact .inl ⟨k3, k5, k6, fun s => by have := k1 s (hH s); have := inside_range l s; omega⟩
  · rcases k7 with ⟨_, k8⟩ | ⟨_, k8, _, k10, k11⟩
    · exfalso
      obtain ⟨B, hB⟩ := inside_far l
      have h1 := k8 (max B f) (by omega) (hH _)
      have h2 := hB (max B f) (by omega)
      omega
    · exact .inr ⟨k3, fun s => k1 s (hH s), k5, k6, k8, k10, k11⟩
end Go.Proofs.Ytgphmhpcaeiglaa
