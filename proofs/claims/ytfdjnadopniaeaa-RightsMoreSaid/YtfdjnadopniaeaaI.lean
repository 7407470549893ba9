import Derived.Test.YtfdjnadopniaeaaH
namespace Go.Proofs.Ytfdjnadopniaeaa
open Go Go.Gx Go.RowKit
set_option linter.unusedVariables false
set_option linter.unusedSimpArgs false

/-- The plays that are left after the first n uses, if all went well. -/
def leftF (l : List GGrant) (us : List GUse) (ks : List Int) : Nat → Option (List Int)
  | 0 => some (playsL l)
  | n + 1 => match leftF l us ks n with
    | none => none
    | some o => if 0 ≤ nth ks (n : Int) ∧ nth ks (n : Int) < l.length ∧ permG (nth l (nth ks (n : Int))) (nth us (n : Int)) = true ∧ nth o (nth ks (n : Int)) ≠ 0 then some (o.set (nth ks (n : Int)).toNat (nth o (nth ks (n : Int)) - 1)) else none
theorem leftF_none {l : List GGrant} {us : List GUse} {ks : List Int} {n : Nat} (h : leftF l us ks n = none) : ∀ m, n ≤ m → leftF l us ks m = none := by
  intro m hm
  induction m with
  | zero => have : n = 0 := by omega
            subst this; exact h
  | succ m ih =>
    by_cases e : n = m + 1
    · subst e; exact h
    · simp only [leftF, ih (by omega)]
def leftI (l : List GGrant) (us : List GUse) (ks : List Int) : List Int := if validG l = true ∧ validU us = true ∧ ks.length = us.length then (leftF l us ks ks.length).getD [] else []
theorem leftF_ok {l : List GGrant} {us : List GUse} {ks : List Int} (hl : ∀ g ∈ l, okG g = true) : ∀ {n : Nat} {o : List Int}, leftF l us ks n = some o → o.length = l.length ∧ ∀ x ∈ o, 0 ≤ x ∧ x ≤ 100 := by
  intro n
  induction n with
  | zero =>
    intro o h
    cases h
    refine ⟨by simp [playsL], fun x hx => ?_⟩
    obtain ⟨g, hg, rfl⟩ := List.mem_map.1 hx
    have := hl g hg
    simp only [okG, decide_eq_true_eq] at this
    omega
  | succ n ih =>
    intro o h
    simp only [leftF] at h
    split at h
    · cases h
    · rename_i o' ho
      obtain ⟨e, hb⟩ := ih ho
      split at h
      · rename_i hc
        cases h
        refine ⟨by simp [e], fun x hx => ?_⟩
        rcases List.mem_or_eq_of_mem_set hx with hx | rfl
        · exact hb x hx
        · have hlt : nth ks (n : Int) < (o'.length : Int) := by have := hc.2.1; omega
          obtain ⟨p, q⟩ := hb (nth o' (nth ks (n : Int))) (nth_mem hc.1 hlt)
          have := hc.2.2.2
          constructor <;> omega
      · cases h
end Go.Proofs.Ytfdjnadopniaeaa
