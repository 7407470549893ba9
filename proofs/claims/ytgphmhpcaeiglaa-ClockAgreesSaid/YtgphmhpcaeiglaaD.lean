import Derived.Test.YtgphmhpcaeiglaaC0
namespace Go.Proofs.Ytgphmhpcaeiglaa
open Go Go.Gx Go.RowKit
set_option linter.unusedVariables false
set_option linter.unusedSimpArgs false

/-! The bounds do not descend. -/
theorem most_mono {d n m : Int} (d0 : 0 ≤ d) (d1 : d ≤ 100) (n0 : 0 ≤ n) (h : n ≤ m) (m1 : m ≤ 10000000) : mostS d n ≤ mostS d m := by
  unfold mostS
  rw [if_neg (show ¬ (d < 0 ∨ 100 < d ∨ n < 0 ∨ 10000000 < n) by omega), if_neg (show ¬ (d < 0 ∨ 100 < d ∨ m < 0 ∨ 10000000 < m) by omega)]
  exact Int.ediv_le_ediv (by omega) (by omega)
theorem least_mono {d n m : Int} (d0 : 0 ≤ d) (d1 : d ≤ 100) (n0 : 0 ≤ n) (h : n ≤ m) (m1 : m ≤ 10000000) : leastS d n ≤ leastS d m := by
  unfold leastS
  rw [if_neg (show ¬ (d < 0 ∨ 100 < d ∨ n < 0 ∨ 10000000 < n) by omega), if_neg (show ¬ (d < 0 ∨ 100 < d ∨ m < 0 ∨ 10000000 < m) by omega)]
  have hm := Int.ediv_nonneg (a := 1000 * (m - 1)) (b := 1000 + d)
  split <;> split <;> try omega
  · have := Int.ediv_le_ediv (a := 1000 * (n - 1)) (b := 1000 * (m - 1)) (c := 1000 + d) (by omega) (by omega)
    omega
theorem lowOf_mono {d x y : Int} {r : GReading} (d0 : 0 ≤ d) (d1 : d ≤ 100) (x0 : 0 ≤ x) (h : x ≤ y) (y1 : y ≤ 10000000) (r0 : 0 ≤ r.Local) (r1 : r.Local ≤ 10000000) : lowOf d x r ≤ lowOf d y r := by
  have hl0 : 0 ≤ mostS d 0 := by have := least_most (d := d) (n := 0) d0 d1 (by omega) (by omega); omega
  unfold lowOf
  by_cases c1 : x < r.Local
  · rw [if_pos c1]
    by_cases c2 : y < r.Local
    · rw [if_pos c2]
      have := most_mono (d := d) (n := r.Local - y) (m := r.Local - x) d0 d1 (by omega) (by omega) (by omega)
      omega
    · have h3 := most_mono (d := d) (n := 0) (m := r.Local - x) d0 d1 (by omega) (by omega) (by omega)
      rw [if_neg c2]
      by_cases c3 : y = r.Local
      · rw [if_pos c3]; omega
      · rw [if_neg c3]
        have := least_most (d := d) (n := y - r.Local) d0 d1 (by omega) (by omega)
        omega
  · rw [if_neg c1, if_neg (show ¬ y < r.Local by omega)]
    by_cases c2 : x = r.Local
    · rw [if_pos c2]
      by_cases c3 : y = r.Local
      · rw [if_pos c3]; omega
      · rw [if_neg c3]
        have := least_most (d := d) (n := y - r.Local) d0 d1 (by omega) (by omega)
        omega
    · rw [if_neg c2, if_neg (show ¬ y = r.Local by omega)]
      have := least_mono (d := d) (n := x - r.Local) (m := y - r.Local) d0 d1 (by omega) (by omega) (by omega)
      omega
theorem highOf_mono {d x y : Int} {r : GReading} (d0 : 0 ≤ d) (d1 : d ≤ 100) (x0 : 0 ≤ x) (h : x ≤ y) (y1 : y ≤ 10000000) (r0 : 0 ≤ r.Local) (r1 : r.Local ≤ 10000000) : highOf d x r ≤ highOf d y r := by
  unfold highOf
  by_cases c1 : x < r.Local
  · rw [if_pos c1]
    by_cases c2 : y < r.Local
    · rw [if_pos c2]
      have := least_mono (d := d) (n := r.Local - y) (m := r.Local - x) d0 d1 (by omega) (by omega) (by omega)
      omega
    · rw [if_neg c2]
      have h1 := least_most (d := d) (n := r.Local - x) d0 d1 (by omega) (by omega)
      have h2 := least_most (d := d) (n := y - r.Local) d0 d1 (by omega) (by omega)
      omega
  · rw [if_neg c1, if_neg (show ¬ y < r.Local by omega)]
    have := most_mono (d := d) (n := x - r.Local) (m := y - r.Local) d0 d1 (by omega) (by omega) (by omega)
    omega
theorem fold_max_mono {α : Type} {f g : α → Int} : ∀ (l : List α) {z z' : Int}, z ≤ z' → (∀ r ∈ l, f r ≤ g r) → l.foldl (fun m r => max m (f r)) z ≤ l.foldl (fun m r => max m (g r)) z'
  | [], _, _, h, _ => h
  | a :: l, z, z', h, hl => by
    simp only [List.foldl_cons]
    have := hl a (List.mem_cons_self ..)
    exact fold_max_mono l (by omega) fun r hr => hl r (List.mem_cons_of_mem _ hr)
theorem fold_min_mono {α : Type} {f g : α → Int} : ∀ (l : List α) {z z' : Int}, z ≤ z' → (∀ r ∈ l, f r ≤ g r) → l.foldl (fun m r => min m (f r)) z ≤ l.foldl (fun m r => min m (g r)) z'
  | [], _, _, h, _ => h
  | a :: l, z, z', h, hl => by
    simp only [List.foldl_cons]
    have := hl a (List.mem_cons_self ..)
    exact fold_min_mono l (by omega) fun r hr => hl r (List.mem_cons_of_mem _ hr)
theorem lowB_mono {d : Int} {l : List GReading} (h : OkC d l) {x y : Int} (x0 : 0 ≤ x) (hxy : x ≤ y) (y1 : y ≤ 10000000) : lowB d l x ≤ lowB d l y :=
  fold_max_mono l (Int.le_refl _) fun r hr => lowOf_mono h.d0 h.d1 x0 hxy y1 (h.mem r hr).1 (h.mem r hr).2.1
theorem highB_mono {d : Int} {l : List GReading} (h : OkC d l) {x y : Int} (x0 : 0 ≤ x) (hxy : x ≤ y) (y1 : y ≤ 10000000) : highB d l x ≤ highB d l y :=
  fold_min_mono l (Int.le_refl _) fun r hr => highOf_mono h.d0 h.d1 x0 hxy y1 (h.mem r hr).1 (h.mem r hr).2.1
theorem lowOf_range {d x : Int} {r : GReading} (d0 : 0 ≤ d) (d1 : d ≤ 100) (x0 : 0 ≤ x) (x1 : x ≤ 10000000) (r0 : 0 ≤ r.Local) (r1 : r.Local ≤ 10000000) : r.Low - 12000000 ≤ lowOf d x r ∧ lowOf d x r ≤ r.Low + 12000000 := by
  unfold lowOf
  have h1 := fun h => least_most (d := d) (n := r.Local - x) d0 d1 h (by omega)
  have h2 := fun h => least_most (d := d) (n := x - r.Local) d0 d1 h (by omega)
  have h3 := least_most (d := d) (n := 0) d0 d1 (by omega) (by omega)
  split
  · have := h1 (by omega); omega
  · split
    · omega
    · have := h2 (by omega); omega
theorem highOf_range {d x : Int} {r : GReading} (d0 : 0 ≤ d) (d1 : d ≤ 100) (x0 : 0 ≤ x) (x1 : x ≤ 10000000) (r0 : 0 ≤ r.Local) (r1 : r.Local ≤ 10000000) : r.High - 12000000 ≤ highOf d x r ∧ highOf d x r ≤ r.High + 12000000 := by
  unfold highOf
  have h1 := fun h => least_most (d := d) (n := r.Local - x) d0 d1 h (by omega)
  have h2 := fun h => least_most (d := d) (n := x - r.Local) d0 d1 h (by omega)
  split
  · have := h1 (by omega); omega
  · have := h2 (by omega); omega
theorem fold_max_range {α : Type} {f : α → Int} {B : Int} : ∀ (l : List α) {z : Int}, 0 ≤ z → z ≤ B → (∀ r ∈ l, f r ≤ B) → 0 ≤ l.foldl (fun m r => max m (f r)) z ∧ l.foldl (fun m r => max m (f r)) z ≤ B
  | [], _, h, h', _ => ⟨h, h'⟩
  | a :: l, z, h, h', hl => by
    simp only [List.foldl_cons]
    have := hl a (List.mem_cons_self ..)
    exact fold_max_range l (by omega) (by omega) fun r hr => hl r (List.mem_cons_of_mem _ hr)
theorem fold_min_range {α : Type} {f : α → Int} {B C : Int} : ∀ (l : List α) {z : Int}, B ≤ z → z ≤ C → (∀ r ∈ l, B ≤ f r) → B ≤ l.foldl (fun m r => min m (f r)) z ∧ l.foldl (fun m r => min m (f r)) z ≤ C
  | [], _, h, h', _ => ⟨h, h'⟩
  | a :: l, z, h, h', hl => by
    simp only [List.foldl_cons]
    have := hl a (List.mem_cons_self ..)
    exact fold_min_range l (by omega) (by omega) fun r hr => hl r (List.mem_cons_of_mem _ hr)
theorem lowB_range {d : Int} {l : List GReading} (h : OkC d l) {x : Int} (x0 : 0 ≤ x) (x1 : x ≤ 10000000) : 0 ≤ lowB d l x ∧ lowB d l x ≤ 30000000 :=
  fold_max_range l (by omega) (by omega) fun r hr => by have := h.mem r hr; have := lowOf_range (r := r) h.d0 h.d1 x0 x1 this.1 this.2.1; omega
theorem highB_range {d : Int} {l : List GReading} (h : OkC d l) {x : Int} (x0 : 0 ≤ x) (x1 : x ≤ 10000000) : -30000000 ≤ highB d l x ∧ highB d l x ≤ 10000000 :=
  fold_min_range l (by omega) (by omega) fun r hr => by have := h.mem r hr; have := highOf_range (r := r) h.d0 h.d1 x0 x1 this.1 this.2.1; omega
theorem OkC.take {d : Int} {l : List GReading} (h : OkC d l) (n : Nat) : OkC d (l.take n) := ⟨h.d0, h.d1, by have := h.len; simp; omega, fun r hr => h.mem r (List.mem_of_mem_take hr)⟩

/-! The first place at which a test holds. -/
def lst (p : Int → Bool) : Nat → Nat
  | 0 => 0
  | n + 1 => if lst p n < n then lst p n else if p n then n else n + 1
theorem lst_spec (p : Int → Bool) (n : Nat) : lst p n ≤ n ∧ (∀ j : Int, 0 ≤ j → j < lst p n → p j = false) ∧ (lst p n < n → p (lst p n) = true) := by
  induction n with
  | zero => exact ⟨Nat.le_refl _, fun j h0 h1 => by simp [lst] at h1; omega, fun h => absurd h (by simp)⟩
  | succ n ih =>
    obtain ⟨h1, h2, h3⟩ := ih
    unfold lst
    by_cases c : lst p n < n
    · rw [if_pos c]; exact ⟨by omega, h2, fun _ => h3 c⟩
    · rw [if_neg c]
      have e : lst p n = n := by omega
      rw [e] at h2
      by_cases cp : p n = true
      · rw [if_pos cp]; exact ⟨by omega, h2, fun _ => cp⟩
      · rw [if_neg cp]
        refine ⟨by omega, fun j j0 j1 => ?_, fun h => absurd h (by omega)⟩
        by_cases ej : j = n
        · subst ej; simpa using cp
        · exact h2 j j0 (by omega)
theorem lst_unique {p : Int → Bool} {n : Nat} {r : Int} (h0 : 0 ≤ r) (h1 : r ≤ n) (hlo : ∀ j : Int, 0 ≤ j → j < r → p j = false) (hhi : r < n → p r = true) : (lst p n : Int) = r := by
  obtain ⟨a, b, c⟩ := lst_spec p n
  by_cases e : (lst p n : Int) < r
  · have := c (by omega); rw [hlo _ (by omega) e] at this; cases this
  · by_cases e2 : r < lst p n
    · have := hhi (by omega); rw [b _ h0 e2] at this; cases this
    · omega
theorem lst_hi {p : Int → Bool} {n : Nat} (hm : ∀ i j : Int, 0 ≤ i → i ≤ j → j < n → p i = true → p j = true) {j : Int} (h : (lst p n : Int) ≤ j) (hj : j < n) : p j = true := by
  obtain ⟨a, b, c⟩ := lst_spec p n
  exact hm _ j (by omega) h hj (c (by omega))
end Go.Proofs.Ytgphmhpcaeiglaa
