import Derived.Test.YtgphmhpcaeiglaaP
namespace Go.Proofs.Ytgphmhpcaeiglaa
open Go Go.Gx Go.RowKit
set_option linter.unusedVariables false
set_option linter.unusedSimpArgs false

theorem sortedC_weak {l : List GReading} {z z' : Int} (h : sortedC z l = true) (hz : z' ≤ z) : sortedC z' l = true := by
  cases l with
  | nil => rfl
  | cons a l =>
    rw [sortedC, Bool.and_eq_true, okB_iff] at h ⊢
    exact ⟨by omega, h.2⟩
theorem sortedC_sub {F l : List GReading} (hs : F.Sublist l) : ∀ {z : Int}, sortedC z l = true → sortedC z F = true := by
  induction hs with
  | slnil => intro z h; exact h
  | cons a _ ih =>
    intro z h
    rw [sortedC, Bool.and_eq_true, okB_iff] at h
    exact ih (sortedC_weak h.2 (by omega))
  | cons_cons a _ ih =>
    intro z h
    rw [sortedC, Bool.and_eq_true] at h ⊢
    exact ⟨h.1, ih h.2⟩
theorem fold_max_sub {α : Type} {f : α → Int} {F l : List α} (hs : F.Sublist l) : ∀ {z z' : Int}, z ≤ z' → F.foldl (fun m r => max m (f r)) z ≤ l.foldl (fun m r => max m (f r)) z' := by
  induction hs with
  | slnil => intro z z' h; exact h
  | cons a _ ih => intro z z' h; rw [List.foldl_cons]; exact ih (by omega)
  | cons_cons a _ ih => intro z z' h; rw [List.foldl_cons, List.foldl_cons]; exact ih (by omega)
theorem fold_min_sub {α : Type} {f : α → Int} {F l : List α} (hs : F.Sublist l) : ∀ {z z' : Int}, z' ≤ z → l.foldl (fun m r => min m (f r)) z' ≤ F.foldl (fun m r => min m (f r)) z := by
  induction hs with
  | slnil => intro z z' h; exact h
  | cons a _ ih => intro z z' h; rw [List.foldl_cons]; exact ih (by omega)
  | cons_cons a _ ih => intro z z' h; rw [List.foldl_cons, List.foldl_cons]; exact ih (by omega)
/-- Known less exactly. -/
def Vr (a b : GReading) : Prop := a.Local = b.Local ∧ 0 ≤ a.Low ∧ a.Low ≤ b.Low ∧ b.High ≤ a.High ∧ a.High ≤ 10000000
inductive Vg : List GReading → List GReading → Prop
  | nil : Vg [] []
  | cons {a b : GReading} {l m : List GReading} (h : Vr a b) (t : Vg l m) : Vg (a :: l) (b :: m)
theorem Vg.snoc {l m : List GReading} (h : Vg l m) {a b : GReading} (hr : Vr a b) : Vg (l ++ [a]) (m ++ [b]) := by
  induction h with
  | nil => exact .cons hr .nil
  | cons h t ih => exact .cons h ih
theorem Vg.len {l m : List GReading} (h : Vg l m) : l.length = m.length := by
  induction h with
  | nil => rfl
  | cons h t ih => simp [ih]
theorem Vg.sorted {l m : List GReading} (h : Vg l m) : ∀ {z : Int}, sortedC z m = true → sortedC z l = true := by
  induction h with
  | nil => intro z h; exact h
  | cons h t ih =>
    intro z hs
    rw [sortedC, Bool.and_eq_true, okB_iff] at hs ⊢
    unfold Vr at h
    refine ⟨by omega, ?_⟩
    rw [h.1]; exact ih hs.2
theorem Vg.low {l m : List GReading} (h : Vg l m) (d x : Int) : ∀ {z z' : Int}, z ≤ z' → l.foldl (fun m r => max m (lowOf d x r)) z ≤ m.foldl (fun m r => max m (lowOf d x r)) z' := by
  induction h with
  | nil => intro z z' h; exact h
  | cons h t ih =>
    intro z z' hz
    rw [List.foldl_cons, List.foldl_cons]
    refine ih ?_
    unfold Vr at h
    unfold lowOf
    rw [h.1]
    (repeat' split) <;> omega
theorem Vg.high {l m : List GReading} (h : Vg l m) (d x : Int) : ∀ {z z' : Int}, z' ≤ z → m.foldl (fun m r => min m (highOf d x r)) z' ≤ l.foldl (fun m r => min m (highOf d x r)) z := by
  induction h with
  | nil => intro z z' h; exact h
  | cons h t ih =>
    intro z z' hz
    rw [List.foldl_cons, List.foldl_cons]
    refine ih ?_
    unfold Vr at h
    unfold highOf
    rw [h.1]
    (repeat' split) <;> omega
theorem atI_ok {d : Int} {l : List GReading} {x : Int} (h : (atI d l x).2.2 = 0) : validC d l = true ∧ 0 ≤ x ∧ x ≤ 10000000 ∧ lowB d l x ≤ highB d l x ∧ atI d l x = (lowB d l x, highB d l x, 0) := by
  unfold atI at h ⊢
  split at h
  · rename_i hc; rw [if_pos hc]; exact ⟨hc.1, hc.2.1, hc.2.2.1, hc.2.2.2, rfl⟩
  · simp at h
theorem atI_range (d : Int) (l : List GReading) (x : Int) : 0 ≤ (atI d l x).1 ∧ (atI d l x).1 ≤ 30000000 ∧ -30000000 ≤ (atI d l x).2.1 ∧ (atI d l x).2.1 ≤ 10000000 := by
  unfold atI
  split
  · rename_i h
    have a := lowB_range (validC_ok h.1) h.2.1 h.2.2.1
    have b := highB_range (validC_ok h.1) h.2.1 h.2.2.1
    simp only; omega
  · simp
theorem atI_bad {d : Int} {l : List GReading} {x : Int} (h : ¬ (atI d l x).2.2 = 0) : atI d l x = (0, 0, 50) := by
  unfold atI at h ⊢
  split at h
  · exact absurd rfl h
  · rename_i hc; rw [if_neg hc]
theorem valid_parts {d : Int} {l : List GReading} (h : validC d l = true) : 0 ≤ d ∧ d ≤ 100 ∧ l.length ≤ 12 ∧ sortedC (-1) l = true := by
  unfold validC at h; simp only [Bool.and_eq_true, decide_eq_true_eq] at h; exact ⟨h.1.1.1, h.1.1.2, h.1.2, h.2⟩
theorem valid_of {d : Int} {l : List GReading} (h0 : 0 ≤ d) (h1 : d ≤ 100) (h2 : l.length ≤ 12) (h3 : sortedC (-1) l = true) : validC d l = true := by
  unfold validC; rw [h3]; simp; omega
theorem at_wider {d : Int} {l F : List GReading} {x : Int} (h : (atI d l x).2.2 = 0) (hv : validC d F = true) (h1 : lowB d F x ≤ lowB d l x) (h2 : highB d l x ≤ highB d F x) :
    (atI d F x).2.2 = 0 ∧ (atI d F x).1 ≤ (atI d l x).1 ∧ (atI d l x).2.1 ≤ (atI d F x).2.1 := by
  obtain ⟨a, b, c, e, f⟩ := atI_ok h
  have : atI d F x = (lowB d F x, highB d F x, 0) := by unfold atI; rw [if_pos ⟨hv, b, c, by omega⟩]
  rw [this, f]; exact ⟨rfl, h1, h2⟩
theorem at_fewer {d : Int} {l F : List GReading} {x : Int} (h : (atI d l x).2.2 = 0) (hs : F.Sublist l) : (atI d F x).2.2 = 0 ∧ (atI d F x).1 ≤ (atI d l x).1 ∧ (atI d l x).2.1 ≤ (atI d F x).2.1 := by
  obtain ⟨a, _⟩ := atI_ok h
  obtain ⟨p, q, r, s⟩ := valid_parts a
  exact at_wider h (valid_of p q (by have := hs.length_le; omega) (sortedC_sub hs s)) (fold_max_sub hs (Int.le_refl _)) (fold_min_sub hs (Int.le_refl _))
theorem at_vague {d : Int} {l V : List GReading} {x : Int} (h : (atI d l x).2.2 = 0) (hs : Vg V l) : (atI d V x).2.2 = 0 ∧ (atI d V x).1 ≤ (atI d l x).1 ∧ (atI d l x).2.1 ≤ (atI d V x).2.1 := by
  obtain ⟨a, _⟩ := atI_ok h
  obtain ⟨p, q, r, s⟩ := valid_parts a
  exact at_wider h (valid_of p q (by have := hs.len; omega) (hs.sorted s)) (hs.low d x (Int.le_refl _)) (hs.high d x (Int.le_refl _))
end Go.Proofs.Ytgphmhpcaeiglaa
