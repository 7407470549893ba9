import Derived.Test.YtaoicaldhllbfaaN
namespace Go.Proofs.Ytaoicaldhllbfaa
open Go Go.Gx Go.RowKit
set_option linter.unusedVariables false
set_option linter.unusedSimpArgs false

/-! ### The clocks' courses, with their drifts -/
theorem mul_bound2 {c x d : Int} (h0 : -d ≤ c) (h1 : c ≤ d) (hx : 0 ≤ x) : -(d * x) ≤ c * x ∧ c * x ≤ d * x :=
  ⟨by have := Int.mul_le_mul_of_nonneg_right h0 hx; rw [Int.neg_mul] at this; exact this, Int.mul_le_mul_of_nonneg_right h1 hx⟩
theorem sumR_drift {d : Int} (h0 : 0 ≤ d) (r : List Int) {t t' : Int} (ht : 0 ≤ t) (h : t ≤ t') (m : Nat) :
    -(d * (min t' (100 * (m : Int)) - min t (100 * (m : Int)))) ≤ sumR d r t' m - sumR d r t m ∧ sumR d r t' m - sumR d r t m ≤ d * (min t' (100 * (m : Int)) - min t (100 * (m : Int))) := by
  induction m with
  | zero =>
    have e : min t' (100 * ((0 : Nat) : Int)) - min t (100 * ((0 : Nat) : Int)) = 0 := by omega
    rw [e]; simp [sumR]
  | succ m ih =>
    have a := clI_sum t ht m
    have b := clI_sum t' (by omega) m
    have c := clI_mono h m
    have e := pickI_range (c := nth r m) (n := 2 * d + 1) (by omega)
    have f := mul_bound2 (c := pickI (nth r m) (2 * d + 1) - d) (d := d) (by omega) (by omega) (x := clI t' m - clI t m) (by omega)
    rw [Int.mul_sub (pickI (nth r m) (2 * d + 1) - d)] at f
    have g : d * (min t' (100 * ((m + 1 : Nat) : Int)) - min t (100 * ((m + 1 : Nat) : Int))) = d * (min t' (100 * (m : Int)) - min t (100 * (m : Int))) + d * (clI t' m - clI t m) := by
      rw [← Int.mul_add]; congr 1; omega
    rw [g]
    simp only [sumR]
    omega
theorem course {d : Int} (h0 : 0 ≤ d) (r : List Int) {t t' : Int} (ht : 0 ≤ t) (h : t ≤ t') (m : Nat) :
    -(d * (t' - t)) ≤ sumR d r t' m - sumR d r t m ∧ sumR d r t' m - sumR d r t m ≤ d * (t' - t) := by
  have a := sumR_drift h0 r ht h m
  have b : d * (min t' (100 * (m : Int)) - min t (100 * (m : Int))) ≤ d * (t' - t) := Int.mul_le_mul_of_nonneg_left (by omega) h0
  omega
/-- A hub holds a lease: the transmitter's clock has not come to its end. -/
theorem holds_over {s : Stry} {h n t0 t1 T : Int} (h0 : 0 ≤ h) (h2 : h ≤ 2) (hn : 1 ≤ n ∧ n ≤ 3600) (ht0 : 0 ≤ t0) (ht : t0 ≤ t1) (hT : t1 ≤ T)
    (hh : s.shown h T - s.shown h t0 < safeN n (pickI (s.d h) 101) (pickI (s.d 3) 101)) : s.shown 3 T < s.shown 3 t1 + n := by
  have key : ∀ (dr st : Int) (r : List Int), shownI dr st r T - shownI dr st r t0 < safeN n (pickI dr 101) (pickI s.d3 101) → shownI s.d3 s.s3 s.l3 T < shownI s.d3 s.s3 s.l3 t1 + n := by
    intro dr st r hh
    have e1 := pickI_range (c := dr) (n := 101) (by omega)
    have e3 := pickI_range (c := s.d3) (n := 101) (by omega)
    rw [safeN_eq hn (by omega) (by omega), leastS_eq hn (by omega)] at hh
    unfold shownI at hh ⊢
    have c1 := course (d := pickI dr 101) (by omega) r ht0 (by omega : t0 ≤ T) (min r.length 20)
    have c3 := course (d := pickI s.d3 101) (by omega) s.l3 (by omega : 0 ≤ t1) hT (min s.l3.length 20)
    generalize pickI dr 101 = d at *
    generalize pickI s.d3 101 = d3 at *
    generalize sumR d r T (min r.length 20) = F at *
    generalize sumR d r t0 (min r.length 20) = F0 at *
    generalize sumR d3 s.l3 T (min s.l3.length 20) = G at *
    generalize sumR d3 s.l3 t1 (min s.l3.length 20) = G1 at *
    obtain ⟨q, hq⟩ : ∃ q, 1000 * (n - 1) / (1000 + d3) = q := ⟨_, rfl⟩
    rw [hq] at hh
    have hq1 : q * (1000 + d3) ≤ 1000 * (n - 1) := by rw [← hq]; exact Int.ediv_mul_le _ (by omega)
    have a1 : d * (T - t0) = d * T - d * t0 := Int.mul_sub _ _ _
    -- the hub's clock bounds the true seconds
    have b1 : T - t0 < q + 1 := by
      apply Int.lt_of_mul_lt_mul_right (a := 1000 - d) _ (by omega)
      have z1 : (T - t0) * (1000 - d) = 1000 * (T - t0) - d * (T - t0) := by rw [Int.mul_sub, Int.mul_comm (T - t0) 1000, Int.mul_comm (T - t0) d]
      rw [z1]
      omega
    have b2 : (1000 + d3) * (T - t1) ≤ 1000 * (n - 1) := by
      have : (1000 + d3) * (T - t1) ≤ (1000 + d3) * q := Int.mul_le_mul_of_nonneg_left (by omega) (by omega)
      rw [Int.mul_comm (1000 + d3) q] at this
      omega
    have b3 : (1000 + d3) * (T - t1) = 1000 * (T - t1) + d3 * (T - t1) := Int.add_mul _ _ _
    omega
  unfold Stry.shown at hh ⊢
  rw [if_neg (by omega), if_neg (by omega), if_neg (by omega)]
  have e3 : s.d 3 = s.d3 := rfl
  rw [e3] at hh
  obtain rfl | rfl | rfl : h = 0 ∨ h = 1 ∨ h = 2 := by omega
  · exact key _ _ _ hh
  · exact key _ _ _ hh
  · exact key _ _ _ hh
end Go.Proofs.Ytaoicaldhllbfaa
