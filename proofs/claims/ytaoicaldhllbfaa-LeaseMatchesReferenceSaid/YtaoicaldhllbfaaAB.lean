import Derived.Test.YtaoicaldhllbfaaAA
namespace Go.Proofs.Ytaoicaldhllbfaa
open Go Go.Gx Go.RowKit
set_option linter.unusedVariables false
set_option linter.unusedSimpArgs false

theorem last_same (l : List GLease) : lastL l = lastRL l := by
  have key : ∀ n : Nat, n + 1 ≤ l.length → (lastRL (l.take (n + 1)) = if (maxL cfE (l.take (n + 1))).Epoch ≤ 0 then zL else maxL cfE (l.take (n + 1))) := by
    intro n
    induction n with
    | zero =>
      intro h
      cases l with
      | nil => simp at h
      | cons a r =>
        simp only [Nat.zero_add, List.take_succ_cons, List.take_zero, maxL, List.foldl_nil, lastRL, List.foldl_cons]
        have e : zL.Epoch = 0 := rfl
        by_cases hh : a.Epoch ≤ 0
        · rw [if_pos hh, if_neg (by omega)]
        · rw [if_neg hh, if_pos (by omega)]
    | succ n ih =>
      intro h
      have i := ih (by omega)
      have e := take_snoc (l := l) (i := ((n + 1 : Nat) : Int)) (by omega) (by omega)
      rw [show (((n + 1 : Nat) : Int) + 1).toNat = n + 1 + 1 by omega, show (((n + 1 : Nat) : Int)).toNat = n + 1 by omega] at e
      have hne : l.take (n + 1) ≠ [] := by
        intro e0
        have := congrArg List.length e0
        rw [List.length_take] at this
        simp only [List.length_nil] at this; omega
      rw [e, lastRL_snoc, maxL_snoc' _ _ _ hne, i]
      have ez : zL.Epoch = 0 := rfl
      generalize maxL cfE (l.take (n + 1)) = m
      generalize nth l ((n + 1 : Nat) : Int) = x
      have hc : 0 < cfE x m ↔ m.Epoch < x.Epoch := by
        unfold cfE cmpI; (repeat' split) <;> omega
      by_cases h1 : m.Epoch < x.Epoch
      · rw [if_pos (hc.2 h1)]
        by_cases h2 : m.Epoch ≤ 0
        · rw [if_pos h2]
          by_cases h3 : x.Epoch ≤ 0
          · rw [if_pos h3, if_neg (by omega)]
          · rw [if_neg h3, if_pos (by omega)]
        · rw [if_neg h2, if_pos h1, if_neg (by omega)]
      · rw [if_neg (fun hh => h1 (hc.1 hh))]
        by_cases h2 : m.Epoch ≤ 0
        · rw [if_pos h2, if_neg (by omega)]
        · rw [if_neg h2, if_neg h1]
  cases l with
  | nil => rfl
  | cons a r =>
    have := key r.length (by simp)
    rw [show r.length + 1 = (a :: r).length by simp, List.take_length] at this
    rw [this]; rfl
/-- A slice's own three words, as a flat kind. -/
structure GSl where
  a : Option Addr
  n : Nat
  c : Nat
instance : Inhabited GSl := ⟨⟨none, 0, 0⟩⟩
def fSl : Flat GSl := ⟨1, fun x => [.slice x.a x.n x.c], fun _ => rfl⟩
def vSl (x : GSl) : Value := .slice x.a x.n x.c
end Go.Proofs.Ytaoicaldhllbfaa
