import Derived.Test.YteplelijhkmbkaaDoorC
namespace Go.Proofs.YteplelijhkmbkaaDoor
open Go Go.Gx Go.RowKit
set_option linter.unusedVariables false
set_option linter.unusedSimpArgs false

/-- The places from a up to b, without b. -/
def seg (f : Nat → Int) (a b : Nat) : List Int := (List.range' a (b - a)).map f
theorem seg_nil {f : Nat → Int} {a b : Nat} (h : b ≤ a) : seg f a b = [] := by
  unfold seg; rw [show b - a = 0 by omega]; rfl
theorem seg_append {f : Nat → Int} {a m b : Nat} (h1 : a ≤ m) (h2 : m ≤ b) : seg f a b = seg f a m ++ seg f m b := by
  unfold seg
  rw [← List.map_append, show b - a = (m - a) + (b - m) by omega, ← List.range'_append_1, show a + (m - a) = m by omega]
theorem seg_one {f : Nat → Int} {a : Nat} : seg f a (a + 1) = [f a] := by
  unfold seg; rw [show a + 1 - a = 1 by omega]; rfl
theorem seg_snoc {f : Nat → Int} {a b : Nat} (h : a ≤ b) : seg f a (b + 1) = seg f a b ++ [f b] := by
  rw [seg_append h (by omega : b ≤ b + 1), seg_one]
theorem seg_cons {f : Nat → Int} {a b : Nat} (h : a < b) : seg f a b = f a :: seg f (a + 1) b := by
  rw [seg_append (by omega : a ≤ a + 1) (by omega), seg_one]; rfl
theorem seg_congr {f g : Nat → Int} {a b : Nat} (h : ∀ k, a ≤ k → k < b → f k = g k) : seg f a b = seg g a b := by
  unfold seg
  exact List.map_congr_left fun k hk => by
    rw [List.mem_range'_1] at hk; exact h k (by omega) (by omega)
theorem seg_shift {f g : Nat → Int} {a b c d : Nat} (hl : b - a = d - c) (h : ∀ k, k < b - a → f (a + k) = g (c + k)) : seg f a b = seg g c d := by
  unfold seg
  rw [← hl, List.range'_eq_map_range, List.range'_eq_map_range, List.map_map, List.map_map]
  exact List.map_congr_left fun k hk => h k (List.mem_range.1 hk)
theorem mem_seg {f : Nat → Int} {a b : Nat} {x : Int} : x ∈ seg f a b ↔ ∃ k, a ≤ k ∧ k < b ∧ x = f k := by
  unfold seg
  rw [List.mem_map]
  constructor
  · rintro ⟨k, hk, rfl⟩; rw [List.mem_range'_1] at hk; exact ⟨k, by omega, by omega, rfl⟩
  · rintro ⟨k, h1, h2, rfl⟩; exact ⟨k, by rw [List.mem_range'_1]; omega, rfl⟩
theorem seg_len {f : Nat → Int} {a b : Nat} : (seg f a b).length = b - a := by simp [seg]
theorem seg_tab {f : Nat → Int} {N : Nat} : seg f 0 N = tab f N := by
  unfold seg tab; rw [Nat.sub_zero, List.range_eq_range']
/-- A part that has been sorted; the rest is as it was. -/
structure Srt (c : Int → Int → Bool) (f g : Nat → Int) (a b : Nat) : Prop where
  out : ∀ k, (k < a ∨ b ≤ k) → g k = f k
  perm : (seg g a b).Perm (seg f a b)
  pw : (seg g a b).Pairwise (RS c)
/-- A place filled from behind. -/
def insF (g : Nat → Int) (j i : Nat) (k : Nat) : Int := if k = j then g i else if j < k ∧ k ≤ i then g (k - 1) else g k
theorem insF_start (g : Nat → Int) (i : Nat) : insF g i i = g := by
  funext k; unfold insF
  split
  · rename_i h; rw [h]
  · rw [if_neg (by omega)]
theorem insF_seg {g : Nat → Int} {a j i : Nat} (h1 : a ≤ j) (h2 : j ≤ i) : seg (insF g j i) a (i + 1) = seg g a j ++ g i :: seg g j i := by
  rw [seg_append h1 (by omega : j ≤ i + 1), seg_cons (f := insF g j i) (a := j) (by omega)]
  congr 1
  · exact seg_congr fun k p q => by unfold insF; rw [if_neg (by omega), if_neg (by omega)]
  · congr 1
    · unfold insF; rw [if_pos rfl]
    · exact seg_shift (by omega) fun k hk => by unfold insF; rw [if_neg (by omega), if_pos (by omega)]; congr 1; omega
theorem ins_step {c : Int → Int → Bool} (hc : SW c) {f g : Nat → Int} {a i j : Nat} (hai : a < i) (hg : Srt c f g a i) (hasc : ∀ k, a ≤ k → k < i → f k < f i) (haj : a ≤ j) (hji : j ≤ i) (h1 : a < j → c (g i) (g (j - 1)) = false) (h2 : ∀ k, j ≤ k → k < i → c (g i) (g k) = true) : Srt c f (insF g j i) a (i + 1) := by
  have hx : g i = f i := hg.out i (.inr (Nat.le_refl _))
  have es : seg g a i = seg g a j ++ seg g j i := seg_append haj hji
  refine ⟨fun k hk => ?_, ?_, ?_⟩
  · unfold insF; rw [if_neg (by omega), if_neg (by omega)]; exact hg.out k (by omega)
  · rw [insF_seg haj hji, seg_snoc (by omega), ← hx]
    refine List.perm_middle.trans ?_
    rw [← es]
    exact (List.perm_append_singleton _ _).symm.trans (hg.perm.append_right _)
  · rw [insF_seg haj hji]
    refine put_fits hc (by rw [← es]; exact hg.pw) (fun y hy => ?_) (fun A' y e => ?_) (fun b hb => ?_)
    · rw [← es] at hy
      obtain ⟨k, p, q, rfl⟩ := mem_seg.1 (hg.perm.mem_iff.1 hy)
      rw [hx]; exact hasc k p q
    · by_cases hlt : a < j
      · obtain ⟨j', rfl⟩ : ∃ j', j = j' + 1 := ⟨j - 1, by omega⟩
        rw [seg_snoc (by omega)] at e
        have := (List.append_inj' e rfl).2
        simp only [List.cons.injEq, and_true] at this
        rw [← this]; exact h1 hlt
      · rw [seg_nil (by omega)] at e
        exact absurd e.symm (by simp)
    · obtain ⟨k, p, q, rfl⟩ := mem_seg.1 hb
      exact h2 k p q
end Go.Proofs.YteplelijhkmbkaaDoor
