import Derived.Test.YtcbidfedffegpaaE
namespace Go.Proofs.Ytcbidfedffegpaa
open Go Go.Gx Go.RowKit
set_option linter.unusedVariables false
set_option linter.unusedSimpArgs false
/-- What the reference makes of the open claims when candidate k gets so much airtime. -/
def passC (k : Int) : Int → List GClaim → Int × List GClaim
  | w, [] => (w, [])
  | w, x :: q =>
    if x.Candidate = k then (if 0 < x.Rest - min w x.Rest then ((passC k (w - min w x.Rest) q).1, { x with Rest := x.Rest - min w x.Rest } :: (passC k (w - min w x.Rest) q).2) else passC k (w - min w x.Rest) q)
    else (if 0 < x.Rest then ((passC k w q).1, x :: (passC k w q).2) else passC k w q)
def newC (n i : Int) (a : GAppearance) (w : Int) : List GClaim := if 0 < w then ((List.range n.toNat).filter fun (c : Nat) => decide ((c : Int) ≠ a.Candidate)).map fun (c : Nat) => ⟨(c : Int), i, w, a.At + 604800⟩ else []
def stepC (n i : Int) (a : GAppearance) (q : List GClaim) : List GClaim := (passC a.Candidate (worthA a) q).2 ++ newC n i a (passC a.Candidate (worthA a) q).1
def openC (n : Int) (l : List GAppearance) (now : Int) : Nat → List GClaim
  | 0 => []
  | m + 1 => if (nth l (m : Int)).At ≤ now then stepC n m (nth l (m : Int)) (openC n l now m) else openC n l now m
def byC (k : Nat) (q : List GClaim) : List GClaim := q.filter fun c => decide (c.Candidate = (k : Int))
def ltP (x y : GClaim) : Prop := x.Of < y.Of ∨ (x.Of = y.Of ∧ x.Candidate < y.Candidate)
theorem passC_by {k : Int} : ∀ (q : List GClaim) (w : Int), 0 ≤ w → (∀ c ∈ q, 1 ≤ c.Rest) →
    (passC k w q).1 = (serveQ w (q.filter fun c => decide (c.Candidate = k))).1 ∧ ((passC k w q).2.filter fun c => decide (c.Candidate = k)) = (serveQ w (q.filter fun c => decide (c.Candidate = k))).2
  | [], w, hw, hq => ⟨rfl, rfl⟩
  | x :: q, w, hw, hq => by
    have hx := hq x (List.mem_cons_self ..)
    have hq' := fun c hc => hq c (List.mem_cons_of_mem _ hc)
    have hs0 : ∀ l : List GClaim, serveQ 0 l = (0, l) := fun l => by cases l <;> simp [serveQ]
    have hfy : ∀ (y : GClaim) (r : List GClaim), y.Candidate = k → ((y :: r).filter fun c => decide (c.Candidate = k)) = y :: r.filter fun c => decide (c.Candidate = k) := fun y r h => by rw [List.filter_cons, if_pos (by simpa using h)]
    have hfn : ∀ (y : GClaim) (r : List GClaim), y.Candidate ≠ k → ((y :: r).filter fun c => decide (c.Candidate = k)) = r.filter fun c => decide (c.Candidate = k) := fun y r h => by rw [List.filter_cons, if_neg (by simpa using h)]
    unfold passC
    by_cases hk : x.Candidate = k
    · rw [if_pos hk, hfy x q hk]
      by_cases hw0 : 0 < w
      · rw [serveQ, if_pos hw0]
        by_cases hf : x.Rest ≤ w
        · rw [if_pos hf, if_neg (by omega), show min w x.Rest = x.Rest by omega]
          exact passC_by q _ (by omega) hq'
        · have ih := passC_by (k := k) q (w - min w x.Rest) (by omega) hq'
          rw [if_neg hf, if_pos (by omega)]
          have e0 : w - min w x.Rest = 0 := by omega
          rw [e0] at ih ⊢
          rw [hs0] at ih
          rw [hfy _ _ (by exact hk), ih.2, show min w x.Rest = w by omega]
          exact ⟨ih.1, rfl⟩
      · have e0 : w = 0 := by omega
        subst e0
        have hm : min 0 x.Rest = 0 := by omega
        have ih := passC_by (k := k) q 0 (by omega) hq'
        rw [hs0] at ih ⊢
        rw [hm, Int.sub_zero, if_pos (by omega), Int.sub_zero, hfy _ _ (by exact hk), ih.2]
        exact ⟨ih.1, rfl⟩
    · have ih := passC_by (k := k) q w hw hq'
      rw [if_neg hk, if_pos (by omega), hfn x q hk, hfn _ _ hk]
      exact ih
theorem passC_other {k j : Int} (hjk : j ≠ k) : ∀ (q : List GClaim) (w : Int), (∀ c ∈ q, 1 ≤ c.Rest) → ((passC k w q).2.filter fun c => decide (c.Candidate = j)) = q.filter fun c => decide (c.Candidate = j)
  | [], w, hq => rfl
  | x :: q, w, hq => by
    have hx := hq x (List.mem_cons_self ..)
    have hq' := fun c hc => hq c (List.mem_cons_of_mem _ hc)
    have hfy : ∀ (y : GClaim) (r : List GClaim), y.Candidate = j → ((y :: r).filter fun c => decide (c.Candidate = j)) = y :: r.filter fun c => decide (c.Candidate = j) := fun y r h => by rw [List.filter_cons, if_pos (by simpa using h)]
    have hfn : ∀ (y : GClaim) (r : List GClaim), y.Candidate ≠ j → ((y :: r).filter fun c => decide (c.Candidate = j)) = r.filter fun c => decide (c.Candidate = j) := fun y r h => by rw [List.filter_cons, if_neg (by simpa using h)]
    unfold passC
    by_cases hk : x.Candidate = k
    · have hj : ¬ x.Candidate = j := fun h => hjk (h.symm.trans hk)
      rw [if_pos hk, hfn x q hj]
      split
      · rw [hfn _ _ (by exact hj)]; exact passC_other hjk q _ hq'
      · exact passC_other hjk q _ hq'
    · rw [if_neg hk, if_pos (by omega)]
      by_cases hj : x.Candidate = j
      · rw [hfy _ _ hj, hfy _ _ hj, passC_other hjk q w hq']
      · rw [hfn _ _ hj, hfn _ _ hj, passC_other hjk q w hq']
/-- What comes out of a pass: the same claims, with less rest. -/
theorem passC_mem {k : Int} : ∀ (q : List GClaim) (w : Int), 0 ≤ w → (∀ c ∈ q, 1 ≤ c.Rest) → (∀ c ∈ (passC k w q).2, ∃ x, x ∈ q ∧ c.Candidate = x.Candidate ∧ c.Of = x.Of ∧ c.Until = x.Until ∧ 1 ≤ c.Rest ∧ c.Rest ≤ x.Rest) ∧ 0 ≤ (passC k w q).1 ∧ (passC k w q).1 ≤ w
  | [], w, hw, hq => ⟨fun c hc => absurd hc List.not_mem_nil, hw, Int.le_refl _⟩
  | x :: q, w, hw, hq => by
    have hx := hq x (List.mem_cons_self ..)
    have hq' := fun c hc => hq c (List.mem_cons_of_mem _ hc)
    have up : ∀ {w'}, 0 ≤ w' → w' ≤ w → (∀ c ∈ (passC k w' q).2, ∃ y, y ∈ x :: q ∧ c.Candidate = y.Candidate ∧ c.Of = y.Of ∧ c.Until = y.Until ∧ 1 ≤ c.Rest ∧ c.Rest ≤ y.Rest) ∧ 0 ≤ (passC k w' q).1 ∧ (passC k w' q).1 ≤ w := fun {w'} h0 h1 => by
      have ih := passC_mem (k := k) q w' h0 hq'
      exact ⟨fun c hc => by obtain ⟨y, hy, h⟩ := ih.1 c hc; exact ⟨y, List.mem_cons_of_mem _ hy, h⟩, ih.2.1, by omega⟩
    unfold passC
    split
    · have u := up (w' := w - min w x.Rest) (by omega) (by omega)
      split
      · refine ⟨fun c hc => ?_, u.2⟩
        rcases List.mem_cons.1 hc with rfl | hc
        · exact ⟨x, List.mem_cons_self .., rfl, rfl, rfl, by show 1 ≤ x.Rest - min w x.Rest; omega, by show x.Rest - min w x.Rest ≤ x.Rest; omega⟩
        · exact u.1 c hc
      · exact u
    · have u := up (w' := w) hw (Int.le_refl _)
      split
      · refine ⟨fun c hc => ?_, u.2⟩
        rcases List.mem_cons.1 hc with rfl | hc
        · exact ⟨c, List.mem_cons_self .., rfl, rfl, rfl, hx, Int.le_refl _⟩
        · exact u.1 c hc
      · exact u
theorem passC_pw {k : Int} : ∀ (q : List GClaim) (w : Int), 0 ≤ w → (∀ c ∈ q, 1 ≤ c.Rest) → q.Pairwise ltP → (passC k w q).2.Pairwise ltP
  | [], w, hw, hq, hp => List.Pairwise.nil
  | x :: q, w, hw, hq, hp => by
    have hx := hq x (List.mem_cons_self ..)
    have hq' := fun c hc => hq c (List.mem_cons_of_mem _ hc)
    rw [List.pairwise_cons] at hp
    have hd : ∀ {w'} (x' : GClaim), 0 ≤ w' → x'.Of = x.Of → x'.Candidate = x.Candidate → ∀ c ∈ (passC k w' q).2, ltP x' c := fun {w'} x' h0 h1 h2 c hc => by
      obtain ⟨y, hy, e1, e2, _⟩ := (passC_mem (k := k) q w' h0 hq').1 c hc
      have := hp.1 y hy
      unfold ltP at *; rw [e1, e2, h1, h2]; exact this
    unfold passC
    split
    · have ih := passC_pw (k := k) q (w - min w x.Rest) (by omega) hq' hp.2
      split
      · exact List.pairwise_cons.2 ⟨hd _ (by omega) rfl rfl, ih⟩
      · exact ih
    · have ih := passC_pw (k := k) q w hw hq' hp.2
      split
      · exact List.pairwise_cons.2 ⟨hd _ hw rfl rfl, ih⟩
      · exact ih
theorem newC_mem {n i : Int} {a : GAppearance} {w : Int} {c : GClaim} (h : c ∈ newC n i a w) : 0 < w ∧ 0 ≤ c.Candidate ∧ c.Candidate < n ∧ c.Candidate ≠ a.Candidate ∧ c.Of = i ∧ c.Rest = w ∧ c.Until = a.At + 604800 := by
  unfold newC at h
  split at h
  · rename_i hw
    obtain ⟨x, hx, rfl⟩ := List.mem_map.1 h
    obtain ⟨h1, h2⟩ := List.mem_filter.1 hx
    have := List.mem_range.1 h1
    have h3 := of_decide_eq_true h2
    exact ⟨hw, by show (0 : Int) ≤ (x : Int); omega, by show (x : Int) < n; omega, h3, rfl, rfl, rfl⟩
  · cases h
theorem newC_pw {n i : Int} {a : GAppearance} {w : Int} : (newC n i a w).Pairwise ltP := by
  unfold newC
  split
  · rw [List.pairwise_map]
    refine (List.Pairwise.filter _ (List.pairwise_lt_range)).imp fun {x y} h => ?_
    exact .inr ⟨rfl, by show (x : Int) < (y : Int); omega⟩
  · exact List.Pairwise.nil
theorem newC_by {n i : Int} {a : GAppearance} {w : Int} {k : Nat} : byC k (newC n i a w) = if k ≠ a.Candidate.toNat ∧ 0 ≤ a.Candidate ∧ (k : Int) < n ∧ 0 < w then [⟨k, i, w, a.At + 604800⟩] else if (k : Int) ≠ a.Candidate ∧ (k : Int) < n ∧ 0 < w then [⟨k, i, w, a.At + 604800⟩] else [] := by
  have hr : ∀ m : Nat, (List.range m).filter (fun c : Nat => decide ((c : Int) ≠ a.Candidate) && decide ((c : Int) = (k : Int))) = if k < m ∧ (k : Int) ≠ a.Candidate then [k] else [] := by
    intro m
    induction m with
    | zero => simp
    | succ m ih =>
      rw [List.range_succ, List.filter_append, ih]
      by_cases h : m = k
      · subst h
        by_cases h2 : (m : Int) = a.Candidate
        · simp [h2]
        · simp [h2]
      · have h3 : ¬ ((m : Int) = (k : Int)) := by omega
        by_cases h4 : k < m
        · have : k < m + 1 := by omega
          simp [h3, h4, this]
        · have : ¬ k < m + 1 := by omega
          simp [h3, h4, this]
  unfold byC newC
  by_cases hw : 0 < w
  · rw [if_pos hw, List.filter_map, List.filter_filter]
    have e : (fun c : Nat => (((fun c : GClaim => decide (c.Candidate = (k : Int))) ∘ fun c : Nat => (⟨(c : Int), i, w, a.At + 604800⟩ : GClaim)) c && decide ((c : Int) ≠ a.Candidate))) = fun c : Nat => (decide ((c : Int) ≠ a.Candidate) && decide ((c : Int) = (k : Int))) := by
      funext c; simp [Bool.and_comm]
    rw [e, hr]
    by_cases h1 : k < n.toNat ∧ (k : Int) ≠ a.Candidate
    · rw [if_pos h1]
      split
      · rfl
      · rw [if_pos ⟨h1.2, by omega, hw⟩]; rfl
    · rw [if_neg h1, if_neg (by omega), if_neg (by omega)]; rfl
  · rw [if_neg hw, if_neg (by omega), if_neg (by omega)]; rfl
/-- What holds of the open claims after m appearances. -/
structure OkC (n : Int) (m : Nat) (q : List GClaim) : Prop where
  mem : ∀ c ∈ q, (0 ≤ c.Candidate ∧ c.Candidate < n) ∧ (0 ≤ c.Of ∧ c.Of < m) ∧ (1 ≤ c.Rest ∧ c.Rest ≤ 36000)
  pw : q.Pairwise ltP
theorem OkC.rest {n : Int} {m : Nat} {q : List GClaim} (h : OkC n m q) : ∀ c ∈ q, 1 ≤ c.Rest := fun c hc => (h.mem c hc).2.2.1
theorem stepC_ok {n : Int} {m : Nat} {a : GAppearance} {q : List GClaim} (h : OkC n m q) (hw : 1 ≤ worthA a ∧ worthA a ≤ 36000) : OkC n (m + 1) (stepC n m a q) := by
  have hp := passC_mem (k := a.Candidate) q (worthA a) (by omega) h.rest
  refine ⟨fun c hc => ?_, List.pairwise_append.2 ⟨passC_pw q _ (by omega) h.rest h.pw, newC_pw, fun x hx y hy => ?_⟩⟩
  · rcases List.mem_append.1 hc with hc | hc
    · obtain ⟨x, hx, e1, e2, e3, e4, e5⟩ := hp.1 c hc
      have := h.mem x hx
      omega
    · have := newC_mem hc
      omega
  · obtain ⟨z, hz, e1, e2, _⟩ := hp.1 x hx
    have h1 := h.mem z hz
    have h2 := newC_mem hy
    left; omega
theorem openC_ok {n : Int} {l : List GAppearance} {now : Int} (h : validA n l = true) : ∀ m : Nat, m ≤ l.length → OkC n m (openC n l now m)
  | 0, _ => ⟨fun c hc => absurd hc List.not_mem_nil, List.Pairwise.nil⟩
  | m + 1, hm => by
    have ih := openC_ok (now := now) h m (by omega)
    obtain ⟨h1, h2, h3, h4, h5⟩ := valid_el h (m := m) (by omega)
    unfold openC
    split
    · exact stepC_ok ih (worth_bound h3 h4)
    · exact ⟨fun c hc => by have := ih.mem c hc; omega, ih.pw⟩
theorem step_by {n : Int} {m : Nat} {a : GAppearance} {q : List GClaim} {qs : Nat → List GClaim} (h : OkC n m q) (hw : 1 ≤ worthA a ∧ worthA a ≤ 36000) (hc : 0 ≤ a.Candidate ∧ a.Candidate < n) (hq : ∀ k, qs k = byC k q) (k : Nat) : appQ n m a qs k = byC k (stepC n m a q) := by
  have hb := passC_by (k := a.Candidate) q (worthA a) (by omega) h.rest
  have hcc : ((a.Candidate.toNat : Nat) : Int) = a.Candidate := Int.toNat_of_nonneg hc.1
  have eb : byC a.Candidate.toNat q = q.filter fun c => decide (c.Candidate = a.Candidate) := by unfold byC; rw [hcc]
  unfold stepC
  rw [show byC k ((passC a.Candidate (worthA a) q).2 ++ newC n m a (passC a.Candidate (worthA a) q).1) = byC k (passC a.Candidate (worthA a) q).2 ++ byC k (newC n m a (passC a.Candidate (worthA a) q).1) by unfold byC; rw [List.filter_append]]
  rw [newC_by, hb.1]
  unfold appQ
  rw [hq a.Candidate.toNat, eb]
  by_cases hk : k = a.Candidate.toNat
  · subst hk
    rw [if_pos rfl, hq, eb, if_neg (by omega), if_neg (by omega), List.append_nil, ← hb.2]
    unfold byC; rw [hcc]
  · rw [if_neg hk]
    have ho := passC_other (k := a.Candidate) (j := (k : Int)) (by omega) q (worthA a) h.rest
    have ho' : byC k (passC a.Candidate (worthA a) q).2 = byC k q := ho
    rw [ho', hq k]
    by_cases h2 : (k : Int) < n ∧ 0 < (serveQ (worthA a) (q.filter fun c => decide (c.Candidate = a.Candidate))).1
    · rw [if_pos h2, if_pos ⟨hk, hc.1, h2.1, h2.2⟩]
    · rw [if_neg h2, if_neg (by omega), if_neg (by omega), List.append_nil]
theorem q_by {n : Int} {l : List GAppearance} {now : Int} (h : validA n l = true) : ∀ m : Nat, m ≤ l.length → ∀ k, qAt n l now m k = byC k (openC n l now m)
  | 0, _ => fun k => rfl
  | m + 1, hm => fun k => by
    have ih := q_by (now := now) h m (by omega)
    obtain ⟨h1, h2, h3, h4, h5⟩ := valid_el h (m := m) (by omega)
    unfold qAt openC
    split
    · exact step_by (openC_ok h m (by omega)) (worth_bound h3 h4) h1 ih k
    · exact ih k
theorem filter_perm {α : Type} (p : α → Bool) : ∀ l : List α, (l.filter p ++ l.filter fun x => !p x).Perm l
  | [] => List.Perm.refl _
  | x :: l => by
    have ih := filter_perm p l
    by_cases h : p x = true
    · rw [List.filter_cons, if_pos h, List.filter_cons, if_neg (by simp [h])]
      exact List.Perm.cons _ ih
    · rw [List.filter_cons, if_neg h, List.filter_cons, if_pos (by simpa using h)]
      exact List.perm_middle.trans (List.Perm.cons _ ih)
theorem by_perm (q : List GClaim) : ∀ N : Nat, (((List.range N).map fun k => byC k q).flatten).Perm (q.filter fun c => decide (0 ≤ c.Candidate ∧ c.Candidate < N))
  | 0 => by
    have : (q.filter fun c => decide (0 ≤ c.Candidate ∧ c.Candidate < ((0 : Nat) : Int))) = [] := by
      rw [List.filter_eq_nil_iff]; intro c hc; simp; try omega
    rw [this]; exact List.Perm.refl _
  | N + 1 => by
    rw [List.range_succ, List.map_append, List.flatten_append]
    have ih := by_perm q N
    have hp := filter_perm (fun c : GClaim => decide (c.Candidate < N)) (q.filter fun c => decide (0 ≤ c.Candidate ∧ c.Candidate < ((N + 1 : Nat) : Int)))
    rw [List.filter_filter, List.filter_filter] at hp
    refine List.Perm.trans ?_ hp
    refine List.Perm.append ?_ ?_
    · have e : (fun c : GClaim => (decide (c.Candidate < N) && decide (0 ≤ c.Candidate ∧ c.Candidate < ((N + 1 : Nat) : Int)))) = fun c : GClaim => decide (0 ≤ c.Candidate ∧ c.Candidate < (N : Int)) := by
        funext c; rw [← Bool.decide_and, decide_eq_decide]; omega
      rw [e]; exact ih
    · have e : (fun c : GClaim => ((!decide (c.Candidate < N)) && decide (0 ≤ c.Candidate ∧ c.Candidate < ((N + 1 : Nat) : Int)))) = fun c : GClaim => decide (c.Candidate = (N : Int)) := by
        funext c; rw [← decide_not, ← Bool.decide_and, decide_eq_decide]; omega
      rw [e]; simp [byC]
theorem pw_ext {x y : GClaim} : ∀ {q : List GClaim}, q.Pairwise ltP → x ∈ q → y ∈ q → x.Of = y.Of → x.Candidate = y.Candidate → x = y
  | [], _, hx, _, _, _ => nomatch hx
  | z :: q, hp, hx, hy, h1, h2 => by
    rw [List.pairwise_cons] at hp
    rcases List.mem_cons.1 hx with ex | kx <;> rcases List.mem_cons.1 hy with ey | ky
    · rw [ex, ey]
    · have := hp.1 y ky; rw [← ex] at this; unfold ltP at this; omega
    · have := hp.1 x kx; rw [← ey] at this; unfold ltP at this; omega
    · exact pw_ext hp.2 kx ky h1 h2
end Go.Proofs.Ytcbidfedffegpaa
