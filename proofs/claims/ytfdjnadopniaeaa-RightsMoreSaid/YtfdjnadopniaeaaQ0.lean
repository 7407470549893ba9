import Derived.Test.YtfdjnadopniaeaaP
namespace Go.Proofs.Ytfdjnadopniaeaa
open Go Go.Gx Go.RowKit
open Kuhn
set_option linter.unusedVariables false
set_option linter.unusedSimpArgs false

namespace Kuhn
theorem firstL_irr : ∀ (l : List Nat) (p : Nat → Bool), firstL l p p = false
  | [], p => rfl
  | k :: ks, p => by unfold firstL; simp [firstL_irr ks p]
theorem firstL_trans : ∀ (l : List Nat) (p q r : Nat → Bool), firstL l p q = true → firstL l q r = true → firstL l p r = true
  | [], p, q, r, h, _ => by simp [firstL] at h
  | k :: ks, p, q, r, h1, h2 => by
    unfold firstL at *
    cases hp : p k <;> cases hq : q k <;> cases hr : r k <;> simp [hp, hq, hr] at h1 h2 ⊢
    · exact firstL_trans ks p q r h1 h2
    · exact firstL_trans ks p q r h1 h2
theorem bef_irr (n s : Nat) : bef n s s = false := by unfold bef; simp [firstL_irr]
theorem bef_trans {n s t b : Nat} (h1 : bef n s t = true) (h2 : bef n t b = true) : bef n s b = true := by
  unfold bef at *
  simp only [Bool.or_eq_true, Bool.and_eq_true, decide_eq_true_eq] at *
  rcases h1 with h1 | ⟨h1, f1⟩ <;> rcases h2 with h2 | ⟨h2, f2⟩
  · left; omega
  · left; omega
  · left; omega
  · right; exact ⟨by omega, firstL_trans _ _ _ _ f1 f2⟩
theorem firstL_app : ∀ (l r : List Nat) (p q : Nat → Bool), (∀ k ∈ r, p k = q k) → firstL (l ++ r) p q = firstL l p q
  | [], [], p, q, _ => rfl
  | [], k :: r, p, q, h => by
    show firstL (k :: r) p q = false
    unfold firstL
    rw [h k (List.mem_cons_self ..)]
    have := firstL_app [] r p q (fun j hj => h j (List.mem_cons_of_mem _ hj))
    simpa [firstL] using this
  | a :: l, r, p, q, h => by
    show firstL (a :: (l ++ r)) p q = firstL (a :: l) p q
    unfold firstL
    rw [firstL_app l r p q h]
theorem bit_big {n s k : Nat} (h : s < 2 ^ n) (hk : n ≤ k) : bit s k = false := by
  unfold bit
  have : s / 2 ^ k = 0 := Nat.div_eq_of_lt (Nat.lt_of_lt_of_le h (Nat.pow_le_pow_right (by decide) hk))
  rw [this]; decide
theorem first_ten {n s t : Nat} (hn : n ≤ 10) (hs : s < 2 ^ n) (ht : t < 2 ^ n) : firstL (List.range 10) (bit s) (bit t) = firstL (List.range n) (bit s) (bit t) := by
  have e : List.range 10 = List.range n ++ (List.range (10 - n)).map (n + ·) := by rw [← List.range_add]; congr 1; omega
  rw [e]
  refine firstL_app _ _ _ _ fun k hk => ?_
  obtain ⟨j, _, rfl⟩ := List.mem_map.1 hk
  rw [bit_big hs (by omega), bit_big ht (by omega)]
/-- How many bits are set. -/
def popc : Nat → Nat
  | 0 => 0
  | n + 1 => (n + 1) % 2 + popc ((n + 1) / 2)
theorem popc_pos {s : Nat} (h : 0 < s) : popc s = s % 2 + popc (s / 2) := by
  obtain ⟨n, rfl⟩ : ∃ n, s = n + 1 := ⟨s - 1, by omega⟩
  rw [popc]
theorem size_succ (n s : Nat) : size (n + 1) s = s % 2 + size n (s / 2) := by
  unfold size elems
  rw [List.range_succ_eq_map, List.filter_cons, List.filter_map]
  have e : (bit s ∘ Nat.succ) = bit (s / 2) := by funext k; exact bit_succ s k
  rw [e, bit_zero]
  by_cases h : s % 2 = 1
  · simp [h]; omega
  · have : s % 2 = 0 := by omega
    simp [this]
theorem popc_size : ∀ (n s : Nat), s < 2 ^ n → popc s = size n s
  | 0, s, h => by have : s = 0 := by simpa using h
                  subst this; simp [popc, size, elems]
  | n + 1, s, h => by
    rw [Nat.pow_succ] at h
    rw [size_succ, ← popc_size n (s / 2) (by omega)]
    rcases Nat.eq_zero_or_pos s with h0 | h0
    · subst h0; simp [popc]
    · exact popc_pos h0
/-- The plays of the grants up to i that permit one of X. -/
def needTo (perm : Nat → Nat → Bool) (plays : Nat → Nat) (X : List Nat) (i : Nat) : Nat := (((List.range i).filter fun k => X.any (perm k)).map plays).sum
theorem needTo_succ (perm : Nat → Nat → Bool) (plays : Nat → Nat) (X : List Nat) (i : Nat) : needTo perm plays X (i + 1) = needTo perm plays X i + if X.any (perm i) = true then plays i else 0 := by
  unfold needTo
  rw [List.range_succ, List.filter_append, List.map_append, List.sum_append]
  by_cases h : X.any (perm i) = true
  · simp [h]
  · simp [h]
theorem needTo_le {perm : Nat → Nat → Bool} {plays : Nat → Nat} {X : List Nat} {c : Nat} (h : ∀ k, plays k ≤ c) : ∀ i, needTo perm plays X i ≤ i * c
  | 0 => by simp [needTo]
  | i + 1 => by
    have := needTo_le (perm := perm) (X := X) h i
    have h2 := h i
    rw [needTo_succ, Nat.add_mul]
    split <;> omega
/-- One of the uses before j of the set is permitted. -/
def anyTo (perm : Nat → Nat → Bool) (s i j : Nat) : Bool := (List.range j).any fun k => bit s k && perm i k
theorem anyTo_succ (perm : Nat → Nat → Bool) (s i j : Nat) : anyTo perm s i (j + 1) = (anyTo perm s i j || (bit s j && perm i j)) := by
  unfold anyTo
  rw [List.range_succ, List.any_append]; simp
theorem anyTo_elems (perm : Nat → Nat → Bool) (n s i : Nat) : (elems n s).any (perm i) = anyTo perm s i n := by
  unfold elems anyTo
  rw [List.any_filter]
end Kuhn
theorem bitI_nat (s k : Nat) : bitI (s : Int) k = bit s k := by
  unfold bitI bit
  have : ((s : Int) / 2 ^ k % 2 = 1) ↔ (s / 2 ^ k % 2 = 1) := by
    have e : ((2 : Int) ^ k) = ((2 ^ k : Nat) : Int) := by simp
    rw [e, ← Int.natCast_ediv]
    omega
  rw [decide_eq_decide]; exact this
theorem bit_is {n k : Int} {s j : Nat} {b : Bool} {w : World} (hn : n = s) (hs : s < 2 ^ 60) (hk : k = j) (hj : j ≤ 60) (h : bit s j = b) : CallsV Try.prog 50 #[.int .i64 n, .int .i64 k] w (.bool b) := by
  have hs' : s < 1152921504606846976 := hs
  have := bit_spec (n := n) (k := k) (w := w) (by omega) (by omega) (by omega) (by omega)
  rw [hn, bitI_nat, hk, Int.toNat_natCast, h] at this
  rw [hn, hk]
  exact this
end Go.Proofs.Ytfdjnadopniaeaa
