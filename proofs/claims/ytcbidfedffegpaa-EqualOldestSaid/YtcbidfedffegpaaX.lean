import Derived.Test.YtcbidfedffegpaaU
namespace Go.Proofs.Ytcbidfedffegpaa
open Go Go.Gx Go.RowKit
set_option linter.unusedVariables false
set_option linter.unusedSimpArgs false
/-- What appearance j left when it came. -/
def leftA (n : Int) (l : List GAppearance) (s : Int) (j : Int) : Int := max (worthA (nth l j) - owAt n l s j.toNat (nth l j).Candidate.toNat) 0
/-- All but the first have their whole rest. -/
def Fst (lf : Int → Int) : List GClaim → Prop
  | [] => True
  | x :: r => x.Rest ≤ lf x.Of ∧ ∀ y ∈ r, y.Rest = lf y.Of
theorem Fst.tail {lf : Int → Int} {x : GClaim} {r : List GClaim} (h : Fst lf (x :: r)) : Fst lf r := by
  cases r with
  | nil => trivial
  | cons y r => exact ⟨by rw [h.2 y (List.mem_cons_self ..)]; exact Int.le_refl _, fun z hz => h.2 z (List.mem_cons_of_mem _ hz)⟩
theorem serveQ_fst {lf : Int → Int} : ∀ (q : List GClaim) (w : Int), 0 ≤ w → Fst lf q → Fst lf (serveQ w q).2
  | [], w, hw, h => trivial
  | c :: q, w, hw, h => by
    rw [serveQ]
    split
    · split
      · exact serveQ_fst q _ (by omega) h.tail
      · exact ⟨by have := h.1; show c.Rest - w ≤ lf c.Of; omega, h.2⟩
    · exact h
theorem fst_append {lf : Int → Int} {q : List GClaim} {x : GClaim} (h : Fst lf q) (hx : x.Rest = lf x.Of) : Fst lf (q ++ [x]) := by
  cases q with
  | nil => exact ⟨by rw [hx]; exact Int.le_refl _, fun y hy => absurd hy List.not_mem_nil⟩
  | cons y r => exact ⟨h.1, fun z hz => by
      rcases List.mem_append.1 hz with hz | hz
      · exact h.2 z hz
      · rw [List.mem_singleton.1 hz]; exact hx⟩
theorem qAt_fst {n : Int} {l : List GAppearance} {s : Int} (h : validA n l = true) : ∀ m : Nat, m ≤ l.length → ∀ k, Fst (leftA n l s) (qAt n l s m k)
  | 0, _ => fun k => trivial
  | m + 1, hm => fun k => by
    have ih := qAt_fst (s := s) h m (by omega)
    obtain ⟨h1, h2, h3, h4, h5⟩ := valid_el h (m := m) (by omega)
    have hw := worth_bound h3 h4
    have hq := fun k => fun c hc => ((qAt_ok (now := s) h m (by omega) k).2 c hc).1
    unfold qAt
    split
    · unfold appQ
      split
      · exact serveQ_fst _ _ (by omega) (ih k)
      · split
        · refine fst_append (ih k) ?_
          show (serveQ _ _).1 = leftA n l s (m : Int)
          rw [(serveQ_sum _ _ (by omega) (hq _)).2]
          unfold leftA owAt; rw [Int.toNat_natCast]
        · exact ih k
    · exact ih k
theorem oldest_rest {n : Int} {l : List GAppearance} {s : Int} (h : validA n l = true) {i : Nat} {c : GClaim} (hc : (openC n l s l.length)[i]? = some c) :
    c.Rest ≤ leftA n l s c.Of ∧ (c.Rest < leftA n l s c.Of → byC c.Candidate.toNat ((openC n l s l.length).take i) = []) := by
  have hmem := List.mem_of_getElem? hc
  have hok := (openC_ok (now := s) h l.length (Nat.le_refl _)).mem c hmem
  have hf := qAt_fst (s := s) h l.length (Nat.le_refl _) c.Candidate.toNat
  rw [q_by h l.length (Nat.le_refl _)] at hf
  have hil := (List.getElem?_eq_some_iff.1 hc).1
  have hcc : ((c.Candidate.toNat : Nat) : Int) = c.Candidate := Int.toNat_of_nonneg hok.1.1
  have hsp : byC c.Candidate.toNat (openC n l s l.length) = byC c.Candidate.toNat ((openC n l s l.length).take i) ++ c :: byC c.Candidate.toNat ((openC n l s l.length).drop (i + 1)) := by
    have e : openC n l s l.length = (openC n l s l.length).take i ++ c :: (openC n l s l.length).drop (i + 1) := by
      have h2 := List.getElem_cons_drop hil
      have h3 : (openC n l s l.length)[i] = c := by rw [List.getElem?_eq_getElem hil] at hc; exact Option.some.inj hc
      rw [h3] at h2
      rw [h2, List.take_append_drop]
    unfold byC
    conv => lhs; rw [e]
    rw [List.filter_append, List.filter_cons, if_pos (by simp [hcc])]
  rw [hsp] at hf
  cases hb : byC c.Candidate.toNat ((openC n l s l.length).take i) with
  | nil => rw [hb] at hf; exact ⟨hf.1, fun _ => rfl⟩
  | cons y r =>
    rw [hb] at hf
    have := hf.2 c (List.mem_append.2 (.inr (List.mem_cons_self ..)))
    exact ⟨by omega, fun hlt => by omega⟩
/-- What is owed just ahead of appearance j. -/
theorem before_owe {n : Int} {l : List GAppearance} {s : Int} (h : validA n l = true) {j : Nat} (hj : j < l.length) (h0 : 0 < j) (hs : (nth l (j : Int)).At ≤ s) : okA n l ((nth l (j : Int)).At - 1) = true ∧ nth (oweI n l ((nth l (j : Int)).At - 1)) (nth l (j : Int)).Candidate = owAt n l s j (nth l (j : Int)).Candidate.toNat := by
  obtain ⟨h1, h2, h3, h4, h5⟩ := valid_el h hj
  have hm := at_mono h h0 hj
  obtain ⟨_, g2, _⟩ := valid_el h (m := 0) (by omega)
  have hok : okA n l ((nth l (j : Int)).At - 1) = true := okA_of h (by simp at hm g2 ⊢; omega) (by omega)
  refine ⟨hok, ?_⟩
  have hcc : ((((nth l (j : Int)).Candidate).toNat : Nat) : Int) = (nth l (j : Int)).Candidate := Int.toNat_of_nonneg h1.1
  rw [← hcc, owe_nth hok (by omega), hcc]
  unfold owAt
  rw [q_by h l.length (Nat.le_refl _), q_by h j (by omega)]
  have e1 := openC_stay (n := n) (l := l) (now := (nth l (j : Int)).At - 1) (m := j) (fun i hi hi2 => by
    by_cases e : i = j
    · rw [e]; omega
    · have := at_mono h (show j < i by omega) hi2; omega) (l.length - j) (by omega)
  rw [show j + (l.length - j) = l.length by omega] at e1
  rw [e1, openC_now (n := n) (l := l) (now := (nth l (j : Int)).At - 1) (now' := s) (m := j) (fun i hi => by have := at_mono h hi hj; omega) j (Nat.le_refl _)]
end Go.Proofs.Ytcbidfedffegpaa
