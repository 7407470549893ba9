/-
  Uses are assigned one by one, each to the first grant that leaves the others assignable.
-/
import Derived.Test.YtfdjnadopniaeaaK0
namespace Go.Proofs.Ytfdjnadopniaeaa.Kuhn
set_option linter.unusedVariables false
set_option linter.unusedSimpArgs false
def A (perm : Nat → Nat → Bool) (plays : Nat → Nat) (m n : Nat) : Bool := (kuhn perm plays m n).isSome
theorem A_iff {perm : Nat → Nat → Bool} {plays : Nat → Nat} {m n : Nat} : A perm plays m n = true ↔ ∀ X, ¬ Lacks perm plays m n X := kuhn_iff n
theorem A_of {perm : Nat → Nat → Bool} {plays : Nat → Nat} {m n : Nat} {g : List (List Nat)} (h : Asg perm plays m n g) : A perm plays m n = true := A_iff.2 (asg_no_lack h)
theorem A_get {perm : Nat → Nat → Bool} {plays : Nat → Nat} {m n : Nat} (h : A perm plays m n = true) : ∃ g, Asg perm plays m n g := by
  have := kuhn_spec (perm := perm) (plays := plays) (m := m) n
  unfold A at h
  cases e : kuhn perm plays m n with
  | none => rw [e] at h; cases h
  | some g => rw [e] at this; exact ⟨g, this⟩
def shift (perm : Nat → Nat → Bool) (k u : Nat) : Bool := perm k (u + 1)
def dec (plays : Nat → Nat) (k : Nat) (j : Nat) : Nat := if j = k then plays j - 1 else plays j
def okK (perm : Nat → Nat → Bool) (plays : Nat → Nat) (m n k : Nat) : Bool := decide (0 < plays k) && perm k 0 && A (shift perm) (dec plays k) m n
def greedy (m : Nat) : Nat → (Nat → Nat → Bool) → (Nat → Nat) → List Nat
  | 0, _, _ => []
  | n + 1, perm, plays => match (List.range m).find? (okK perm plays m n) with
    | some k => k :: greedy m n (shift perm) (dec plays k)
    | none => greedy m n (shift perm) plays

theorem filter_pos_map : ∀ (l : List Nat), ∀ k ∈ (l.filter (fun x => decide (0 < x))).map (· - 1), k + 1 ∈ l := by
  intro l k hk
  obtain ⟨x, hx, rfl⟩ := List.mem_map.1 hk
  obtain ⟨h1, h2⟩ := List.mem_filter.1 hx
  have : 0 < x := by simpa using h2
  rw [show x - 1 + 1 = x by omega]; exact h1
theorem range_pred (n : Nat) : ((List.range (n + 1)).filter (fun x => decide (0 < x))).map (· - 1) = List.range n := by
  rw [List.range_succ_eq_map]
  simp only [List.filter_cons]
  simp
  induction List.range n with
  | nil => rfl
  | cons a l ih => simp only [List.map_cons, List.filter_cons]; simp [ih]
theorem flatten_pred : ∀ (g : List (List Nat)), (g.map fun r => (r.filter (fun x => decide (0 < x))).map (· - 1)).flatten = ((g.flatten).filter (fun x => decide (0 < x))).map (· - 1)
  | [] => rfl
  | a :: g => by simp only [List.map_cons, List.flatten_cons, flatten_pred g, List.filter_append, List.map_append]
theorem filter_lt {l : List Nat} (h : 0 ∈ l) : ((l.filter (fun x => decide (0 < x))).map (· - 1)).length + 1 ≤ l.length := by
  rw [List.length_map]
  induction l with
  | nil => cases h
  | cons a l ih =>
    by_cases ha : a = 0
    · subst ha
      have := List.length_filter_le (fun x => decide (0 < x)) l
      simp only [List.filter_cons]; simp; omega
    · have h2 : 0 ∈ l := by
        rcases List.mem_cons.1 h with h | h
        · exact absurd h.symm ha
        · exact h
      have := ih h2
      simp only [List.filter_cons, show decide (0 < a) = true by simp; omega, if_true, List.length_cons]; omega
/-- What is assignable goes on: some grant can be taken for the first use. -/
theorem step_some {perm : Nat → Nat → Bool} {plays : Nat → Nat} {m n : Nat} (h : A perm plays m (n + 1) = true) : ∃ k, k < m ∧ okK perm plays m n k = true := by
  obtain ⟨g, hg⟩ := A_get h
  have h0 : 0 ∈ g.flatten := hg.all.mem_iff.2 (List.mem_range.2 (by omega))
  obtain ⟨k, hk, hr⟩ := mem_flatten_row h0
  rw [hg.gl] at hk
  refine ⟨k, hk, ?_⟩
  have hpos : 0 < plays k := Nat.lt_of_lt_of_le (List.length_pos_of_mem hr) (hg.cp k hk)
  have hget : ∀ j, (g.map fun r => (r.filter (fun x => decide (0 < x))).map (· - 1)).getD j [] = ((g.getD j []).filter (fun x => decide (0 < x))).map (· - 1) := fun j => by
    simp only [List.getD, List.getElem?_map]
    cases g[j]? <;> rfl
  have hA : A (shift perm) (dec plays k) m n = true := by
    refine A_of (g := g.map fun r => (r.filter (fun x => decide (0 < x))).map (· - 1)) ⟨by simp [hg.gl], fun j hj o ho => ?_, fun j hj => ?_, ?_⟩
    · rw [hget] at ho
      exact hg.pm j hj _ (filter_pos_map _ o ho)
    · rw [hget]
      unfold dec
      split
      · rename_i e; subst e
        have := filter_lt hr
        have := hg.cp j hj
        omega
      · rw [List.length_map]
        exact Nat.le_trans (List.length_filter_le _ _) (hg.cp j hj)
    · rw [flatten_pred, ← range_pred n]
      exact (hg.all.filter _).map _
  unfold okK
  rw [hA, hg.pm k hk 0 hr]; simp [hpos]
theorem find_some {perm : Nat → Nat → Bool} {plays : Nat → Nat} {m n : Nat} (h : A perm plays m (n + 1) = true) : ∃ k, (List.range m).find? (okK perm plays m n) = some k ∧ k < m ∧ 0 < plays k ∧ perm k 0 = true ∧ A (shift perm) (dec plays k) m n = true ∧ ∀ j, j < k → okK perm plays m n j = false := by
  obtain ⟨k0, hk0, hok⟩ := step_some h
  cases e : (List.range m).find? (okK perm plays m n) with
  | none =>
    have := List.find?_eq_none.1 e k0 (List.mem_range.2 hk0)
    exact absurd hok (by simpa using this)
  | some k =>
    have h1 := List.find?_some e
    have h2 := List.mem_range.1 (List.mem_of_find?_eq_some e)
    unfold okK at h1
    simp only [Bool.and_eq_true, decide_eq_true_eq] at h1
    refine ⟨k, rfl, h2, h1.1.1, h1.1.2, h1.2, fun j hj => ?_⟩
    obtain ⟨_, as, bs, hl, hno⟩ := List.find?_eq_some_iff_append.1 e
    have hjm : j ∈ as := by
      have hj' : j ∈ List.range m := List.mem_range.2 (by omega)
      have hkp : as.length = k := by
        have hg := congrArg (fun l : List Nat => l[as.length]?) hl
        simp at hg
        have : as.length < m := by
          have := congrArg List.length hl; simp at this; omega
        rw [List.getElem?_range this] at hg
        simpa using hg
      have hg := congrArg (fun l : List Nat => l[j]?) hl
      simp only [List.getElem?_range (show j < m by omega)] at hg
      rw [List.getElem?_append_left (by omega)] at hg
      exact List.mem_of_getElem? hg.symm
    have := hno j hjm
    simpa using this
theorem greedy_step {perm : Nat → Nat → Bool} {plays : Nat → Nat} {m n : Nat} (h : A perm plays m (n + 1) = true) : ∃ k, greedy m (n + 1) perm plays = k :: greedy m n (shift perm) (dec plays k) ∧ k < m ∧ 0 < plays k ∧ perm k 0 = true ∧ A (shift perm) (dec plays k) m n = true ∧ ∀ j, j < k → okK perm plays m n j = false := by
  obtain ⟨k, e, r⟩ := find_some h
  exact ⟨k, by rw [greedy, e], r⟩
theorem greedy_len {m : Nat} : ∀ {n : Nat} {perm : Nat → Nat → Bool} {plays : Nat → Nat}, A perm plays m n = true → (greedy m n perm plays).length = n
  | 0, _, _, _ => rfl
  | n + 1, perm, plays, h => by
    obtain ⟨k, e, _, _, _, hA, _⟩ := greedy_step h
    rw [e, List.length_cons, greedy_len hA]
end Go.Proofs.Ytfdjnadopniaeaa.Kuhn
