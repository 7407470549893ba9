import Derived.Test.YtgphmhpcaeiglaaB
namespace Go.Proofs.Ytgphmhpcaeiglaa
open Go Go.Gx Go.RowKit
set_option linter.unusedVariables false
set_option linter.unusedSimpArgs false

theorem drop_nth {α : Type} [Inhabited α] {l : List α} {i : Int} (h0 : 0 ≤ i) (h : i < l.length) : l.drop i.toNat = nth l i :: l.drop (i + 1).toNat := by
  have hg := nth_get h0 h
  obtain ⟨hlt, e⟩ := List.getElem?_eq_some_iff.1 hg
  rw [show (i + 1).toNat = i.toNat + 1 by omega, List.drop_eq_getElem_cons hlt, e]
theorem take_snoc {α : Type} [Inhabited α] {l : List α} {i : Int} (h0 : 0 ≤ i) (h : i < l.length) : l.take (i + 1).toNat = l.take i.toNat ++ [nth l i] := by
  rw [show (i + 1).toNat = i.toNat + 1 by omega, List.take_add_one, nth_get h0 h]; rfl
theorem nth_mem {α : Type} [Inhabited α] {l : List α} {i : Int} (h0 : 0 ≤ i) (h : i < l.length) : nth l i ∈ l := List.mem_of_getElem? (nth_get h0 h)
def okB (z : Int) (r : GReading) : Bool := decide (z < r.Local) && decide (r.Local ≤ 10000000) && decide (0 ≤ r.Low) && decide (r.Low ≤ r.High) && decide (r.High ≤ 10000000)
def sortedC : Int → List GReading → Bool
  | _, [] => true
  | z, r :: l => okB z r && sortedC r.Local l
def validC (d : Int) (l : List GReading) : Bool := decide (0 ≤ d) && decide (d ≤ 100) && decide (l.length ≤ 12) && sortedC (-1) l
theorem okB_iff {z : Int} {r : GReading} : okB z r = true ↔ z < r.Local ∧ r.Local ≤ 10000000 ∧ 0 ≤ r.Low ∧ r.Low ≤ r.High ∧ r.High ≤ 10000000 := by simp [okB, and_assoc]
theorem sortedC_step {l : List GReading} {i : Int} (h0 : 0 ≤ i) (h : i < l.length) (z : Int) : sortedC z (l.drop i.toNat) = (okB z (nth l i) && sortedC (nth l i).Local (l.drop (i + 1).toNat)) := by
  rw [drop_nth h0 h]; rfl
theorem sortedC_bad {l : List GReading} {i z : Int} (h0 : 0 ≤ i) (h : i < l.length) (hv : sortedC (-1) l = sortedC z (l.drop i.toNat)) (hb : ¬ (z < (nth l i).Local ∧ (nth l i).Local ≤ 10000000 ∧ 0 ≤ (nth l i).Low ∧ (nth l i).Low ≤ (nth l i).High ∧ (nth l i).High ≤ 10000000)) (d : Int) : validC d l = false := by
  have : okB z (nth l i) = false := by rw [← Bool.not_eq_true, okB_iff]; exact hb
  unfold validC; rw [hv, sortedC_step h0 h, this]; simp
theorem sortedC_good {l : List GReading} {i z : Int} (h0 : 0 ≤ i) (h : i < l.length) (hv : sortedC (-1) l = sortedC z (l.drop i.toNat)) (hb : z < (nth l i).Local ∧ (nth l i).Local ≤ 10000000 ∧ 0 ≤ (nth l i).Low ∧ (nth l i).Low ≤ (nth l i).High ∧ (nth l i).High ≤ 10000000) : sortedC (-1) l = sortedC (nth l i).Local (l.drop (i + 1).toNat) := by
  have : okB z (nth l i) = true := by rw [okB_iff]; exact hb
  rw [hv, sortedC_step h0 h, this]; simp
theorem validC_end {d : Int} {l : List GReading} {z i : Int} (h : ¬ i < l.length) (h1 : i ≤ l.length) (h0 : 0 ≤ i) (hv : sortedC (-1) l = sortedC z (l.drop i.toNat)) (d0 : 0 ≤ d) (d1 : d ≤ 100) (hl : l.length ≤ 12) : validC d l = true := by
  unfold validC; rw [hv, List.drop_eq_nil_of_le (by omega)]; simp [sortedC]; omega
theorem sortedC_mem {l : List GReading} : ∀ {z : Int}, sortedC z l = true → ∀ r ∈ l, z < r.Local ∧ r.Local ≤ 10000000 ∧ 0 ≤ r.Low ∧ r.Low ≤ r.High ∧ r.High ≤ 10000000 := by
  induction l with
  | nil => intro z _ r hr; cases hr
  | cons a l ih =>
    intro z h r hr
    rw [sortedC, Bool.and_eq_true] at h
    have ha := okB_iff.1 h.1
    rcases List.mem_cons.1 hr with rfl | hr
    · exact ha
    · have := ih h.2 r hr; omega
structure OkC (d : Int) (l : List GReading) : Prop where
  d0 : 0 ≤ d
  d1 : d ≤ 100
  len : l.length ≤ 12
  mem : ∀ r ∈ l, 0 ≤ r.Local ∧ r.Local ≤ 10000000 ∧ 0 ≤ r.Low ∧ r.Low ≤ r.High ∧ r.High ≤ 10000000
theorem validC_ok {d : Int} {l : List GReading} (h : validC d l = true) : OkC d l := by
  unfold validC at h
  simp only [Bool.and_eq_true, decide_eq_true_eq] at h
  exact ⟨h.1.1.1, h.1.1.2, h.1.2, fun r hr => by have := sortedC_mem h.2 r hr; omega⟩

def lowOf (d x : Int) (r : GReading) : Int := if x < r.Local then r.Low + -mostS d (r.Local - x) else if x = r.Local then r.Low + -mostS d 0 else r.Low + leastS d (x - r.Local)
def highOf (d x : Int) (r : GReading) : Int := if x < r.Local then r.High + -leastS d (r.Local - x) else r.High + mostS d (x - r.Local)
def lowB (d : Int) (l : List GReading) (x : Int) : Int := l.foldl (fun m r => max m (lowOf d x r)) 0
def highB (d : Int) (l : List GReading) (x : Int) : Int := l.foldl (fun m r => min m (highOf d x r)) 10000000
theorem lowB_snoc (d : Int) (l : List GReading) (r : GReading) (x : Int) : lowB d (l ++ [r]) x = max (lowB d l x) (lowOf d x r) := by simp [lowB]
theorem highB_snoc (d : Int) (l : List GReading) (r : GReading) (x : Int) : highB d (l ++ [r]) x = min (highB d l x) (highOf d x r) := by simp [highB]

end Go.Proofs.Ytgphmhpcaeiglaa
