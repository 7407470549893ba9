import Derived.Test.YtcbidfedffegpaaP
namespace Go.Proofs.Ytcbidfedffegpaa
open Go Go.Gx Go.RowKit
set_option linter.unusedVariables false
set_option linter.unusedSimpArgs false
theorem sumR_nonneg : ∀ (q : List GClaim), (∀ c ∈ q, 1 ≤ c.Rest) → 0 ≤ sumR q
  | [], _ => by simp [sumR]
  | c :: q, h => by
    have h1 := h c (List.mem_cons_self ..)
    have h2 := sumR_nonneg q (fun x hx => h x (List.mem_cons_of_mem _ hx))
    simp only [sumR]; omega
theorem serveQ_sum : ∀ (q : List GClaim) (w : Int), 0 ≤ w → (∀ c ∈ q, 1 ≤ c.Rest) → sumR (serveQ w q).2 = max (sumR q - w) 0 ∧ (serveQ w q).1 = max (w - sumR q) 0
  | [], w, hw, hq => by simp only [serveQ, sumR]; omega
  | c :: q, w, hw, hq => by
    have hc := hq c (List.mem_cons_self ..)
    have hq' := fun x hx => hq x (List.mem_cons_of_mem _ hx)
    have hs := sumR_nonneg q hq'
    rw [serveQ]
    split
    · split
      · have := serveQ_sum q (w - c.Rest) (by omega) hq'
        simp only [sumR]; omega
      · simp only [sumR]; omega
    · simp only [sumR]; omega
/-- What candidate k may claim after m appearances. -/
def owAt (n : Int) (l : List GAppearance) (now : Int) (m k : Nat) : Int := sumR (qAt n l now m k)
theorem ow_step {n i : Int} {a : GAppearance} {qs : Nat → List GClaim} {k : Nat} (hq : ∀ k, ∀ c ∈ qs k, 1 ≤ c.Rest) (hw : 1 ≤ worthA a) (hk : (k : Int) < n) : sumR (appQ n i a qs k) = if k = a.Candidate.toNat then max (sumR (qs k) - worthA a) 0 else sumR (qs k) + max (worthA a - sumR (qs a.Candidate.toNat)) 0 := by
  have h1 := serveQ_sum (qs k) (worthA a) (by omega) (hq k)
  have h2 := serveQ_sum (qs a.Candidate.toNat) (worthA a) (by omega) (hq _)
  unfold appQ
  by_cases e : k = a.Candidate.toNat
  · rw [if_pos e, if_pos e]; exact h1.1
  · rw [if_neg e, if_neg e, h2.2]
    by_cases hp : 0 < max (worthA a - sumR (qs a.Candidate.toNat)) 0
    · rw [if_pos ⟨hk, hp⟩, sumR_append]; simp [sumR]
    · rw [if_neg (by omega)]; omega
/-- All have had and may claim, together, the same; one may claim nothing. -/
def Level (n : Int) (h : List Int) (ow : Nat → Int) (M : Int) : Prop := (∀ k : Nat, (k : Int) < n → nth h (k : Int) + ow k = M ∧ 0 ≤ ow k ∧ 0 ≤ nth h (k : Int)) ∧ ∃ k : Nat, (k : Int) < n ∧ ow k = 0
theorem nth_set_self {l : List Int} {c : Int} {x : Int} (h0 : 0 ≤ c) (h : c < l.length) : nth (l.set c.toNat x) c = x := by
  unfold nth; rw [List.getD_eq_getElem?_getD, List.getElem?_set_self (by omega)]; rfl
theorem nth_set_ne {l : List Int} {c k : Int} {x : Int} (h : c.toNat ≠ k.toNat) : nth (l.set c.toNat x) k = nth l k := by
  unfold nth; rw [List.getD_eq_getElem?_getD, List.getD_eq_getElem?_getD, List.getElem?_set_ne h]
theorem level_at {n : Int} {l : List GAppearance} {now : Int} (h : validA n l = true) : ∀ m : Nat, m ≤ l.length → ∃ M, Level n (hadAt l now m) (owAt n l now m) M
  | 0, _ => by
    have hv := valid_at h
    refine ⟨0, fun k hk => ?_, 0, by omega, rfl⟩
    have : nth (hadAt l now 0) (k : Int) = 0 := by
      unfold nth hadAt; rw [Int.toNat_natCast, List.getD_eq_getElem?_getD, List.getElem?_replicate, if_pos (by omega)]; rfl
    have h2 : owAt n l now 0 k = 0 := rfl
    omega
  | m + 1, hm => by
    obtain ⟨M, hl, k0, hk0, hz⟩ := level_at (now := now) h m (by omega)
    obtain ⟨h1, h2, h3, h4, h5⟩ := valid_el h (m := m) (by omega)
    have hw := worth_bound h3 h4
    have hv := valid_at h
    have hq := fun k => fun c hc => ((qAt_ok (now := now) h m (by omega) k).2 c hc).1
    by_cases hat : (nth l (m : Int)).At ≤ now
    · have eh : hadAt l now (m + 1) = (hadAt l now m).set (nth l (m : Int)).Candidate.toNat (nth (hadAt l now m) (nth l (m : Int)).Candidate + worthA (nth l (m : Int))) := by rw [hadAt, if_pos hat]
      have eo : ∀ k : Nat, (k : Int) < n → owAt n l now (m + 1) k = if k = (nth l (m : Int)).Candidate.toNat then max (owAt n l now m k - worthA (nth l (m : Int))) 0 else owAt n l now m k + max (worthA (nth l (m : Int)) - owAt n l now m (nth l (m : Int)).Candidate.toNat) 0 := fun k hk => by
        unfold owAt; rw [qAt, if_pos hat]; exact ow_step hq hw.1 hk
      have hlen := hadAt_len (l := l) (now := now) m
      generalize nth l (m : Int) = a at *
      have hc := hl a.Candidate.toNat (by omega)
      rw [Int.toNat_of_nonneg h1.1] at hc
      refine ⟨M + max (worthA a - owAt n l now m a.Candidate.toNat) 0, fun k hk => ?_, ?_⟩
      · rw [eh, eo k hk]
        have hkk := hl k hk
        by_cases e : k = a.Candidate.toNat
        · have ek : (k : Int) = a.Candidate := by omega
          rw [if_pos e, ek, nth_set_self h1.1 (by omega), e]; omega
        · rw [if_neg e, nth_set_ne (by omega)]; omega
      · by_cases hp : owAt n l now m a.Candidate.toNat ≤ worthA a
        · exact ⟨a.Candidate.toNat, by omega, by rw [eo _ (by omega), if_pos rfl]; omega⟩
        · exact ⟨k0, hk0, by rw [eo _ hk0, if_neg (fun e => by rw [e] at hz; omega)]; omega⟩
    · have eh : hadAt l now (m + 1) = hadAt l now m := by rw [hadAt, if_neg hat]
      have eo : ∀ k, owAt n l now (m + 1) k = owAt n l now m k := fun k => by unfold owAt; rw [qAt, if_neg hat]
      refine ⟨M, fun k hk => by rw [eh, eo]; exact hl k hk, k0, hk0, by rw [eo]; exact hz⟩
theorem foldl_max : ∀ (l : List Int) (a M : Int), a ≤ M → (∀ x ∈ l, x ≤ M) → (a = M ∨ M ∈ l) → l.foldl max a = M
  | [], a, M, h, _, h2 => by rcases h2 with h2 | h2; exact h2; cases h2
  | x :: l, a, M, h, h1, h2 => by
    have hx := h1 x (List.mem_cons_self ..)
    refine foldl_max l (max a x) M (by omega) (fun y hy => h1 y (List.mem_cons_of_mem _ hy)) ?_
    rcases h2 with h2 | h2
    · left; omega
    · rcases List.mem_cons.1 h2 with h2 | h2
      · left; omega
      · right; exact h2
end Go.Proofs.Ytcbidfedffegpaa
