import Derived.Test.YtaoicaldhllbfaaR
import Derived.Test.YtaoicaldhllbfaaGxOps2
namespace Go.Proofs.Ytaoicaldhllbfaa
open Go Go.Gx Go.RowKit
set_option linter.unusedVariables false
set_option linter.unusedSimpArgs false

theorem mkS_ans (s : Stry) {m : Nat} {j : Int} (h0 : 0 ≤ j) (h : j < m) : nth (mkS s m).ans j = (mkS s (j + 1).toNat).t + pickI (nth s.reqs j).a3 60 := by
  induction m with
  | zero => omega
  | succ m ih =>
    obtain ⟨_, _, L3⟩ := mkS_len s m
    by_cases e : j = m
    · subst e
      rw [show ((m : Int) + 1).toNat = m + 1 by omega]
      simp only [mkS]
      rw [nth_append_last (by omega)]
    · simp only [mkS]
      rw [nth_append_left h0 (by omega), ih (by omega)]
/-- A granted lease that a hub holds at second T, its answer come: the transmitter's clock does not say that it is over. -/
theorem held_over {s : Stry} {i T : Int} (h0 : 0 ≤ i) (hi : i < s.n) (hT : nth (mkS s s.n).ans i ≤ T) (he : (nth (runL (mkS s s.n).l).2 i).Epoch ≠ 0)
    (hh : holdsL (nth (runL (mkS s s.n).l).2 i) (pickI (s.d (nth (mkS s s.n).l i).Hub) 101) (pickI (s.d 3) 101) (s.shown (nth (mkS s s.n).l i).Hub T) = true) :
    s.shown 3 T < (nth (runL (mkS s s.n).l).2 i).Until := by
  obtain ⟨L1, _, _⟩ := mkS_len s s.n
  have e := runL_nth (l := (mkS s s.n).l) h0 (by omega)
  rw [mkS_nth s h0 hi] at e hh
  rw [mkS_ans s h0 hi] at hT
  split at e
  · rw [e] at he; exact absurd rfl he
  · rw [e] at hh ⊢
    have a := mkS_t s (i + 1).toNat
    have b := pickI_range (c := (nth s.reqs i).a3) (n := 60) (by omega)
    have c := pickI_range (c := (nth s.reqs i).a2) (n := 60) (by omega)
    have d := pickI_range (c := (nth s.reqs i).a4) (n := 400) (by omega)
    have f := pickI_range (c := (nth s.reqs i).a0) (n := 3) (by omega)
    simp only [holdsL, grantL, mkReq, Bool.and_eq_true, decide_eq_true_eq] at hh ⊢
    have g := holds_over (s := s) (h := pickI (nth s.reqs i).a0 3) (n := 1 + pickI (nth s.reqs i).a4 400) (t0 := (mkS s (i + 1).toNat).t - pickI (nth s.reqs i).a2 60) (t1 := (mkS s (i + 1).toNat).t) (T := T) (by omega) (by omega) (by omega) (by omega) (by omega) (by omega) (of_decide_eq_true hh.2)
    omega
end Go.Proofs.Ytaoicaldhllbfaa
