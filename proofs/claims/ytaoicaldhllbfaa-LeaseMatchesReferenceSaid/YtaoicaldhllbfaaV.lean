import Derived.Test.YtaoicaldhllbfaaU
namespace Go.Proofs.Ytaoicaldhllbfaa
open Go Go.Gx Go.RowKit
set_option linter.unusedVariables false
set_option linter.unusedSimpArgs false

theorem granted_of {l : List GRequest} {i : Int} (h0 : 0 ≤ i) (h : i < l.length) (he : (nth (runL l).2 i).Epoch ≠ 0) :
    skipL (runL (l.take i.toNat)).1 (nth l i) = false ∧ nth (runL l).2 i = grantL (runL (l.take i.toNat)).1 (nth l i) ∧ (runL (l.take (i + 1).toNat)).1 = nth (runL l).2 i := by
  have e := runL_nth h0 h
  have hs := runL_snoc (l.take i.toNat) (nth l i)
  rw [← take_snoc h0 h] at hs
  unfold stepL at hs
  by_cases hk : skipL (runL (l.take i.toNat)).1 (nth l i) = true
  · rw [if_pos hk] at e
    rw [e] at he
    exact absurd rfl he
  · rw [if_neg hk] at e hs
    exact ⟨by simpa using hk, e, by rw [hs, e]⟩
/-- Another hub's lease begins when the last one is over. -/
theorem excl_at {l : List GRequest} (hv : validReqs l = true) {j i : Int} (j0 : 0 ≤ j) (ji : j < i) (hi : i < l.length) (hej : (nth (runL l).2 j).Epoch ≠ 0) (hei : (nth (runL l).2 i).Epoch ≠ 0)
    (hne : (nth l i).Hub ≠ (nth l j).Hub) : (nth (runL l).2 j).Until ≤ (nth l i).At := by
  have hok := (valid_ok hv).2
  have key : ∀ n : Nat, j + 1 + n ≤ l.length → 1 ≤ (runL (l.take (j + 1 + n).toNat)).1.Epoch ∧ (((runL (l.take (j + 1 + n).toNat)).1.Hub = (nth l j).Hub ∧ (nth (runL l).2 j).Until ≤ (runL (l.take (j + 1 + n).toNat)).1.Until) ∨ ∃ m : Int, 0 ≤ m ∧ m < j + 1 + n ∧ (nth (runL l).2 j).Until ≤ (nth l m).At) := by
    intro n
    induction n with
    | zero =>
      intro _
      obtain ⟨_, a, b⟩ := granted_of j0 (by omega) hej
      have hq := okL_run hok j0 (by omega : j ≤ l.length)
      unfold okL at hq
      rw [show j + 1 + ((0 : Nat) : Int) = j + 1 by omega, b]
      refine ⟨?_, .inl ⟨?_, by omega⟩⟩
      · rw [a]; simp only [grantL]; omega
      · rw [a]; rfl
    | succ n ih =>
      intro h
      obtain ⟨h1, h2⟩ := ih (by omega)
      have hs := runL_snoc (l.take (j + 1 + n).toNat) (nth l (j + 1 + n))
      rw [← take_snoc (by omega) (by omega)] at hs
      rw [show j + 1 + ((n + 1 : Nat) : Int) = j + 1 + n + 1 by omega, hs]
      unfold stepL
      split
      · refine ⟨h1, h2.imp id fun ⟨m, m0, m1, m2⟩ => ⟨m, m0, by omega, m2⟩⟩
      · rename_i hk
        simp [skipL, freeL, overL] at hk
        refine ⟨by simp only [grantL]; omega, ?_⟩
        rcases h2 with ⟨ha, hb⟩ | ⟨m, m0, m1, m2⟩
        · by_cases hh : (nth l (j + 1 + n)).Hub = (runL (l.take (j + 1 + n).toNat)).1.Hub
          · refine .inl ⟨by simp only [grantL]; rw [hh, ha], by simp only [grantL]; omega⟩
          · refine .inr ⟨j + 1 + n, by omega, by omega, ?_⟩
            have : (runL (l.take (j + 1 + n).toNat)).1.Until ≤ (nth l (j + 1 + n)).At := by
              rcases Int.lt_or_le (nth l (j + 1 + n)).At (runL (l.take (j + 1 + n).toNat)).1.Until with h | h
              · exact absurd (hk (by omega) h) hh
              · exact h
            omega
        · exact .inr ⟨m, m0, by omega, m2⟩
  have := key (i - (j + 1)).toNat (by omega)
  rw [show j + 1 + (((i - (j + 1)).toNat : Nat) : Int) = i by omega] at this
  obtain ⟨h1, h2⟩ := this
  rcases h2 with ⟨ha, hb⟩ | ⟨m, m0, m1, m2⟩
  · obtain ⟨hk, _, _⟩ := granted_of (by omega) hi hei
    simp [skipL, freeL, overL] at hk
    rcases Int.lt_or_le (nth l i).At (runL (l.take i.toNat)).1.Until with h | h
    · exact absurd ((hk (by omega) h).trans ha) hne
    · omega
  · have := sorted_le hv (i - m).toNat m0 (by omega)
    rw [show m + (((i - m).toNat : Nat) : Int) = i by omega] at this
    omega
/-- A hub holds lease i of a story at second T. -/
def heldAt (s : Stry) (i T : Int) : Prop := (nth (runL (mkS s s.n).l).2 i).Epoch ≠ 0 ∧ nth (mkS s s.n).ans i ≤ T ∧ holdsL (nth (runL (mkS s s.n).l).2 i) (pickI (s.d (nth (mkS s s.n).l i).Hub) 101) (pickI (s.d 3) 101) (s.shown (nth (mkS s s.n).l i).Hub T) = true
theorem excludes {s : Stry} {j i T : Int} (j0 : 0 ≤ j) (ji : j < i) (hi : i < s.n) (hj : heldAt s j T) (hh : heldAt s i T) : (nth (mkS s s.n).l i).Hub = (nth (mkS s s.n).l j).Hub := by
  obtain ⟨L1, _, _⟩ := mkS_len s s.n
  rcases Classical.em ((nth (mkS s s.n).l i).Hub = (nth (mkS s s.n).l j).Hub) with h | hne
  · exact h
  · exfalso
    have a := excl_at (mkS_valid s) j0 ji (by omega) hj.1 hh.1 hne
    have b := held_over (s := s) (i := j) (T := T) j0 (by omega) hj.2.1 hj.1 hj.2.2
    have c := hh.2.1
    rw [mkS_ans s (by omega) hi] at c
    rw [mkS_nth s (by omega) hi] at a
    have d := mkS_t s (i + 1).toNat
    have e := pickI_range (c := (nth s.reqs i).a3) (n := 60) (by omega)
    have f := shownS_mono (s := s) (k := 3) (t := (mkS s (i + 1).toNat).t) (t' := T) (by omega) (by omega)
    simp only [mkReq] at a
    omega
end Go.Proofs.Ytaoicaldhllbfaa
