/-
  Sets as bits: the reference's way to the first set that lacks plays, and to whether none does.
-/
import Derived.Test.YtfdjnadopniaeaaK2
namespace Go.Proofs.Ytfdjnadopniaeaa.Kuhn
set_option linter.unusedVariables false
set_option linter.unusedSimpArgs false
/-- Bit k of a number, as Go's n >> k % 2 == 1 says. -/
def bit (n k : Nat) : Bool := decide (n / 2 ^ k % 2 = 1)
theorem bit_succ (n k : Nat) : bit n (k + 1) = bit (n / 2) k := by
  unfold bit; rw [Nat.pow_succ, Nat.mul_comm, ← Nat.div_div_eq_div_mul]
theorem bit_zero (n : Nat) : bit n 0 = decide (n % 2 = 1) := by unfold bit; simp
theorem bits_ex : ∀ (n : Nat) (p : Nat → Bool), ∃ s, s < 2 ^ n ∧ ∀ k, k < n → bit s k = p k
  | 0, p => ⟨0, by simp, fun k h => by omega⟩
  | n + 1, p => by
    obtain ⟨s, h1, h2⟩ := bits_ex n (fun k => p (k + 1))
    refine ⟨2 * s + (if p 0 then 1 else 0), ?_, fun k hk => ?_⟩
    · rw [Nat.pow_succ]; split <;> omega
    · have hd : (2 * s + (if p 0 then 1 else 0)) / 2 = s := by split <;> omega
      cases k with
      | zero =>
        rw [bit_zero]
        cases h : p 0
        · simp
        · simp
      | succ k => rw [bit_succ, hd]; exact h2 k (by omega)
theorem bits_inj : ∀ (n s t : Nat), s < 2 ^ n → t < 2 ^ n → (∀ k, k < n → bit s k = bit t k) → s = t
  | 0, s, t, h1, h2, _ => by simp at h1 h2; omega
  | n + 1, s, t, h1, h2, h => by
    rw [Nat.pow_succ] at h1 h2
    have h0 := h 0 (by omega)
    have := bits_inj n (s / 2) (t / 2) (by omega) (by omega) (fun k hk => by have := h (k + 1) (by omega); rwa [bit_succ, bit_succ] at this)
    rw [bit_zero, bit_zero] at h0
    have h3 : (s % 2 = 1) ↔ (t % 2 = 1) := by simpa using h0
    omega
/-- The uses of a set. -/
def elems (n s : Nat) : List Nat := (List.range n).filter (bit s)
/-- How many bits a number has. -/
def size (n s : Nat) : Nat := (elems n s).length
def lackS (perm : Nat → Nat → Bool) (plays : Nat → Nat) (m n s : Nat) : Bool := lackB perm plays m (elems n s)
section
variable {perm : Nat → Nat → Bool} {plays : Nat → Nat} {m n : Nat}
theorem elems_sub (n s : Nat) : (elems n s).Sublist (List.range n) := List.filter_sublist
theorem sub_elems {X : List Nat} (h : X.Sublist (List.range n)) : ∃ s, s < 2 ^ n ∧ elems n s = X := by
  obtain ⟨s, h1, h2⟩ := bits_ex n (fun k => X.contains k)
  refine ⟨s, h1, ?_⟩
  unfold elems
  have e : (List.range n).filter (bit s) = (List.range n).filter (fun k => X.contains k) := List.filter_congr fun k hk => h2 k (List.mem_range.1 hk)
  rw [e]
  have key : ∀ (l : List Nat) (X : List Nat), l.Nodup → X.Sublist l → l.filter (fun k => X.contains k) = X := by
    intro l
    induction l with
    | nil => intro X _ h; rw [List.sublist_nil.1 h]; rfl
    | cons a l ih =>
      intro X hn h
      rw [List.nodup_cons] at hn
      cases h with
      | cons _ h =>
        have ha : a ∉ X := fun hx => hn.1 (h.subset hx)
        rw [List.filter_cons]
        simp only [List.contains_iff_mem, ha, if_false]
        exact ih X hn.2 h
      | cons_cons _ h =>
        rename_i Y
        rw [List.filter_cons]
        simp only [List.contains_cons, beq_self_eq_true, Bool.true_or, if_true]
        congr 1
        have e2 : l.filter (fun k => k == a || Y.contains k) = l.filter (fun k => Y.contains k) := List.filter_congr fun k hk => by
          have hne : k ≠ a := fun e => hn.1 (e ▸ hk)
          have : (k == a) = false := by simpa using hne
          rw [this, Bool.false_or]
        exact e2.trans (ih Y hn.2 h)
  exact key _ X List.nodup_range h
theorem A_bits : A perm plays m n = true ↔ ∀ s, s < 2 ^ n → lackS perm plays m n s = false := by
  rw [A_lackP]
  constructor
  · intro h s _
    exact lackP_none h _ (elems_sub n s)
  · intro h
    cases e : lackP perm plays m n with
    | none => rfl
    | some X =>
      obtain ⟨a, b, _⟩ := lackP_some e
      obtain ⟨s, hs, he⟩ := sub_elems a
      have := h s hs
      unfold lackS at this
      rw [he, b] at this; cases this
/-- s comes before t. -/
def bef (n s t : Nat) : Bool := decide (size n s < size n t) || (decide (size n s = size n t) && firstL (List.range n) (bit s) (bit t))
theorem bef_of {s t : Nat} (h : (elems n s).length < (elems n t).length ∨ ((elems n s).length = (elems n t).length ∧ lexlt (elems n s) (elems n t) = true)) : bef n s t = true := by
  unfold bef size
  rcases h with h | ⟨h, h2⟩
  · simp [h]
  · rw [first_of_lex List.pairwise_lt_range h h2]; simp [h]
/-- The reference's best set: nothing lacks and comes before it. -/
theorem best_is {b : Nat} (hb : lackS perm plays m n b = true) (hmin : ∀ s, s < 2 ^ n → lackS perm plays m n s = true → bef n s b = false) : lackP perm plays m n = some (elems n b) := by
  cases e : lackP perm plays m n with
  | none =>
    have := lackP_none e _ (elems_sub n b)
    unfold lackS at hb; rw [this] at hb; cases hb
  | some X =>
    obtain ⟨a, b2, c⟩ := lackP_some e
    obtain ⟨s, hs, he⟩ := sub_elems a
    rcases c _ (elems_sub n b) hb with h | h
    · rw [h]
    · have h1 := hmin s hs (by unfold lackS; rw [he]; exact b2)
      rw [bef_of (by rw [he]; exact h)] at h1
      cases h1
end
end Go.Proofs.Ytfdjnadopniaeaa.Kuhn
