import Derived.Test.YteplelijhkmbkaaDoorZ
namespace Go.Proofs.YteplelijhkmbkaaDoor
open Go Go.Gx Go.RowKit
set_option linter.unusedVariables false
set_option linter.unusedSimpArgs false

/-! What the spots that count are, in plain. -/
theorem rsn_zero {l : List GContract} {cnt : List GSpot} {x : GSpot} : rsn l cnt x = 0 ↔ ∃ c, cFind l x.Contract = some c ∧ n1 c x = false ∧ n2 c x = false ∧ x ∉ cnt ∧ cntC cnt x.Contract < c.Count ∧ cntD cnt (onD x) < c.PerDay ∧ (cnt.any fun s => nearI ((cFind l s.Contract).getD default) c s x.At) = false := by
  unfold rsn
  cases h : cFind l x.Contract with
  | none => simp
  | some c =>
    simp only [Option.some.injEq, exists_eq_left']
    constructor
    · intro e
      cases h1 : n1 c x with
      | true => rw [h1, if_pos rfl] at e; omega
      | false =>
      cases h2 : n2 c x with
      | true => rw [h1, h2, if_neg (by decide), if_pos rfl] at e; omega
      | false =>
      rw [h1, h2, if_neg (by decide), if_neg (by decide)] at e
      by_cases h3 : x ∈ cnt
      · rw [decide_eq_true h3, if_pos rfl] at e; omega
      rw [decide_eq_false h3, if_neg (by decide)] at e
      by_cases h4 : c.Count ≤ cntC cnt x.Contract
      · rw [decide_eq_true h4, if_pos rfl] at e; omega
      rw [decide_eq_false h4, if_neg (by decide)] at e
      by_cases h5 : c.PerDay ≤ cntD cnt (onD x)
      · rw [decide_eq_true h5, if_pos rfl] at e; omega
      rw [decide_eq_false h5, if_neg (by decide)] at e
      cases h6 : (cnt.any fun s => nearI ((cFind l s.Contract).getD default) c s x.At) with
      | true => rw [h6, if_pos rfl] at e; omega
      | false => exact ⟨rfl, rfl, h3, by omega, by omega, rfl⟩
    · rintro ⟨h1, h2, h3, h4, h5, h6⟩
      rw [h1, h2, decide_eq_false h3, decide_eq_false (by omega), decide_eq_false (by omega), h6]; rfl
theorem outOf_app {l : List GContract} {sp : List GSpot} : ∀ (t o : List Int), ∃ r, t.foldl (stepO l sp) o = o ++ r ∧ r.Sublist t
  | [], o => ⟨[], by simp, List.Sublist.refl _⟩
  | a :: t, o => by
    obtain ⟨r, e, hs⟩ := outOf_app t (stepO l sp o a)
    unfold stepO at e ⊢
    split at e
    · rename_i h0
      refine ⟨a :: r, ?_, hs.cons_cons a⟩
      simp only [List.foldl_cons]
      show t.foldl (stepO l sp) (if rsn l (spAt sp o) (nth sp a) = 0 then o ++ [a] else o) = _
      rw [if_pos h0]
      refine e.trans ?_
      simp
    · rename_i h0
      refine ⟨r, ?_, hs.cons a⟩
      simp only [List.foldl_cons]
      show t.foldl (stepO l sp) (if rsn l (spAt sp o) (nth sp a) = 0 then o ++ [a] else o) = _
      rw [if_neg h0]; exact e
theorem cntI_sub (l : List GContract) (sp : List GSpot) : (cntI l sp).Sublist (ordI sp) := by
  obtain ⟨r, e, hs⟩ := @outOf_app l sp (ordI sp) []
  unfold cntI outOf
  rw [e]; exact hs
theorem cntI_pw (l : List GContract) (sp : List GSpot) : (cntI l sp).Pairwise (RS (cS sp)) := (ordI_ok sp).pw.sublist (cntI_sub l sp)
def GoodO (l : List GContract) (sp : List GSpot) (o : List Int) : Prop := ∀ (i : Nat) (x : Int), o[i]? = some x → rsn l (spAt sp (o.take i)) (nth sp x) = 0
theorem goodO_fold {l : List GContract} {sp : List GSpot} : ∀ (t o : List Int), GoodO l sp o → GoodO l sp (t.foldl (stepO l sp) o)
  | [], o, h => h
  | a :: t, o, h => by
    refine goodO_fold t (stepO l sp o a) ?_
    unfold stepO
    split
    · rename_i h0
      intro i x hx
      by_cases hi : i < o.length
      · rw [List.getElem?_append_left hi] at hx
        rw [List.take_append_of_le_length (by omega)]
        exact h i x hx
      · rw [List.getElem?_append_right (by omega)] at hx
        have hi0 : i - o.length = 0 := by
          rcases Nat.eq_zero_or_pos (i - o.length) with e | e
          · exact e
          · rw [List.getElem?_eq_none (by simp; omega)] at hx; cases hx
        rw [hi0] at hx
        cases hx
        rw [show i = o.length by omega, List.take_left']
        · exact h0
        · rfl
    · exact h
theorem cntI_good (l : List GContract) (sp : List GSpot) {i : Int} (h0 : 0 ≤ i) (hi : i < (cntI l sp).length) : rsn l (spAt sp ((cntI l sp).take i.toNat)) (nth sp (nth (cntI l sp) i)) = 0 :=
  goodO_fold (ordI sp) [] (fun i x hx => by simp at hx) i.toNat _ (nth_get h0 hi)
theorem cntI_le (l : List GContract) (sp : List GSpot) {n i : Int} (h0 : 0 ≤ n) (hni : n < i) (hi : i < (cntI l sp).length) : (nth sp (nth (cntI l sp) n)).At ≤ (nth sp (nth (cntI l sp) i)).At := by
  have hp := List.pairwise_iff_getElem.1 (cntI_pw l sp) n.toNat i.toNat (by omega) (by omega) (by omega)
  have e1 := nth_get (l := cntI l sp) (i := n) h0 (by omega)
  have e2 := nth_get (l := cntI l sp) (i := i) (by omega) hi
  rw [List.getElem?_eq_getElem (by omega)] at e1 e2
  rw [Option.some.inj e1, Option.some.inj e2] at hp
  rcases hp with h | ⟨h, _⟩
  · have := cS_iff.1 h; omega
  · have h2 : ¬ cS sp (nth (cntI l sp) i) (nth (cntI l sp) n) = true := by rw [h]; decide
    have := fun q => h2 (cS_iff.2 q)
    by_cases hlt : (nth sp (nth (cntI l sp) i)).At < (nth sp (nth (cntI l sp) n)).At
    · exact absurd (.inl hlt) this
    · omega
theorem near_mem {l : List GContract} {cnt : List GSpot} {c : GContract} {t : Int} (h : (cnt.any fun s => nearI ((cFind l s.Contract).getD default) c s t) = false) {s : GSpot} (hs : s ∈ cnt) : nearI ((cFind l s.Contract).getD default) c s t = false := by
  have := List.any_eq_false.1 h s hs
  simpa using this
end Go.Proofs.YteplelijhkmbkaaDoor
