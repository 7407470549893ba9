/-
  Sets of uses in their order: the first one that lacks plays.
-/
import Derived.Test.YtfdjnadopniaeaaK1
namespace Go.Proofs.Ytfdjnadopniaeaa.Kuhn
set_option linter.unusedVariables false
set_option linter.unusedSimpArgs false
def cmb : Nat → List Nat → List (List Nat)
  | 0, _ => [[]]
  | _ + 1, [] => []
  | k + 1, a :: l => (cmb k l).map (a :: ·) ++ cmb (k + 1) l
def lexlt : List Nat → List Nat → Bool
  | a :: as, b :: bs => decide (a < b) || (decide (a = b) && lexlt as bs)
  | _, _ => false
theorem mem_cmb : ∀ {l : List Nat} {k : Nat} {X : List Nat}, X ∈ cmb k l ↔ X.Sublist l ∧ X.length = k
  | l, 0, X => by
    simp only [cmb, List.mem_singleton]
    constructor
    · rintro rfl; exact ⟨List.nil_sublist _, rfl⟩
    · rintro ⟨_, h⟩; exact List.length_eq_zero_iff.1 h
  | [], k + 1, X => by
    simp only [cmb, List.not_mem_nil, false_iff]
    rintro ⟨h, h2⟩
    rw [List.sublist_nil.1 h] at h2; simp at h2
  | a :: l, k + 1, X => by
    simp only [cmb, List.mem_append, List.mem_map]
    constructor
    · rintro (⟨Y, hY, rfl⟩ | h)
      · obtain ⟨h1, h2⟩ := (mem_cmb (l := l) (k := k)).1 hY
        exact ⟨h1.cons_cons a, by simp [h2]⟩
      · obtain ⟨h1, h2⟩ := (mem_cmb (l := l) (k := k + 1)).1 h
        exact ⟨h1.cons a, h2⟩
    · rintro ⟨h1, h2⟩
      cases h1 with
      | cons _ h => exact .inr (mem_cmb.2 ⟨h, h2⟩)
      | cons_cons _ h => exact .inl ⟨_, mem_cmb.2 ⟨h, by simpa using h2⟩, rfl⟩
theorem cmb_sorted : ∀ {l : List Nat} {k : Nat}, l.Pairwise (· < ·) → (cmb k l).Pairwise (fun X Y => lexlt X Y = true)
  | l, 0, _ => by simp [cmb]
  | [], k + 1, _ => by simp [cmb]
  | a :: l, k + 1, h => by
    rw [List.pairwise_cons] at h
    simp only [cmb]
    refine List.pairwise_append.2 ⟨?_, cmb_sorted h.2, fun X hX Y hY => ?_⟩
    · refine List.pairwise_map.2 ((cmb_sorted (k := k) h.2).imp fun {X Y} hXY => ?_)
      simp [lexlt, hXY]
    · obtain ⟨Z, hZ, rfl⟩ := List.mem_map.1 hX
      obtain ⟨h1, h2⟩ := mem_cmb.1 hY
      cases Y with
      | nil => simp at h2
      | cons b Y =>
        have : a < b := h.1 b (h1.subset (List.mem_cons_self ..))
        simp [lexlt, this]
theorem find_first {α : Type} {R : α → α → Prop} {p : α → Bool} : ∀ {L : List α}, L.Pairwise R → ∀ {x : α}, L.find? p = some x → ∀ y ∈ L, p y = true → y = x ∨ R x y
  | [], _, x, h => by simp at h
  | a :: L, hL, x, h => by
    rw [List.pairwise_cons] at hL
    intro y hy hp
    simp only [List.find?_cons] at h
    cases ha : p a with
    | true =>
      rw [ha] at h
      cases h
      rcases List.mem_cons.1 hy with rfl | hy
      · exact .inl rfl
      · exact .inr (hL.1 y hy)
    | false =>
      rw [ha] at h
      rcases List.mem_cons.1 hy with rfl | hy
      · rw [ha] at hp; cases hp
      · exact find_first hL.2 h y hy hp

def lackB (perm : Nat → Nat → Bool) (plays : Nat → Nat) (m : Nat) (X : List Nat) : Bool := decide (need perm plays m X < X.length)
/-- The first set, by size and then in order, that lacks plays. -/
def lackFrom (perm : Nat → Nat → Bool) (plays : Nat → Nat) (m n : Nat) : Nat → Nat → Option (List Nat)
  | 0, _ => none
  | c + 1, k => match (cmb k (List.range n)).find? (lackB perm plays m) with
    | some X => some X
    | none => lackFrom perm plays m n c (k + 1)
def lackP (perm : Nat → Nat → Bool) (plays : Nat → Nat) (m n : Nat) : Option (List Nat) := lackFrom perm plays m n n 1
section
variable {perm : Nat → Nat → Bool} {plays : Nat → Nat} {m n : Nat}
theorem lackFrom_spec : ∀ (c k : Nat), match lackFrom perm plays m n c k with
    | some X => X.Sublist (List.range n) ∧ k ≤ X.length ∧ lackB perm plays m X = true ∧ ∀ Y, Y.Sublist (List.range n) → k ≤ Y.length → Y.length < k + c → lackB perm plays m Y = true → Y = X ∨ X.length < Y.length ∨ (X.length = Y.length ∧ lexlt X Y = true)
    | none => ∀ Y, Y.Sublist (List.range n) → k ≤ Y.length → Y.length < k + c → lackB perm plays m Y = false
  | 0, k => fun Y _ h1 h2 => by omega
  | c + 1, k => by
    unfold lackFrom
    cases e : (cmb k (List.range n)).find? (lackB perm plays m) with
    | some X =>
      simp only
      obtain ⟨h1, h2⟩ := mem_cmb.1 (List.mem_of_find?_eq_some e)
      refine ⟨h1, by omega, List.find?_some e, fun Y hY hk _ hl => ?_⟩
      by_cases hlen : Y.length = k
      · rcases find_first (cmb_sorted (k := k) List.pairwise_lt_range) e Y (mem_cmb.2 ⟨hY, hlen⟩) hl with h | h
        · exact .inl h
        · exact .inr (.inr ⟨by omega, h⟩)
      · exact .inr (.inl (by omega))
    | none =>
      simp only
      have hno := List.find?_eq_none.1 e
      have ih := lackFrom_spec c (k + 1)
      split at ih
      · rename_i X he
        obtain ⟨a1, a2, a3, a4⟩ := ih
        refine ⟨a1, by omega, a3, fun Y hY hk hc hl => ?_⟩
        by_cases hlen : Y.length = k
        · exact absurd hl (by simpa using hno Y (mem_cmb.2 ⟨hY, hlen⟩))
        · exact a4 Y hY (by omega) (by omega) hl
      · rename_i he
        intro Y hY hk hc
        by_cases hlen : Y.length = k
        · simpa using hno Y (mem_cmb.2 ⟨hY, hlen⟩)
        · exact ih Y hY (by omega) (by omega)
theorem lack_zero (X : List Nat) (h : X.length = 0) : lackB perm plays m X = false := by unfold lackB; rw [h]; simp
theorem lackP_some {X : List Nat} (h : lackP perm plays m n = some X) : X.Sublist (List.range n) ∧ lackB perm plays m X = true ∧ ∀ Y, Y.Sublist (List.range n) → lackB perm plays m Y = true → Y = X ∨ X.length < Y.length ∨ (X.length = Y.length ∧ lexlt X Y = true) := by
  have := lackFrom_spec (perm := perm) (plays := plays) (m := m) (n := n) n 1
  unfold lackP at h
  rw [h] at this
  obtain ⟨a, b, c, d⟩ := this
  refine ⟨a, c, fun Y hY hl => d Y hY ?_ ?_ hl⟩
  · rcases Nat.eq_zero_or_pos Y.length with h0 | h0
    · rw [lack_zero Y h0] at hl; cases hl
    · omega
  · have := hY.length_le; rw [List.length_range] at this; omega
theorem lackP_none (h : lackP perm plays m n = none) : ∀ Y, Y.Sublist (List.range n) → lackB perm plays m Y = false := by
  have := lackFrom_spec (perm := perm) (plays := plays) (m := m) (n := n) n 1
  unfold lackP at h
  rw [h] at this
  intro Y hY
  rcases Nat.eq_zero_or_pos Y.length with h0 | h0
  · exact lack_zero Y h0
  · exact this Y hY (by omega) (by have := hY.length_le; rw [List.length_range] at this; omega)
theorem need_congr {X Y : List Nat} (h : ∀ x, x ∈ X ↔ x ∈ Y) : need perm plays m X = need perm plays m Y := by
  unfold need
  congr 2
  apply List.filter_congr
  intro k _
  rw [Bool.eq_iff_iff, List.any_eq_true, List.any_eq_true]
  constructor <;> rintro ⟨x, hx, hp⟩
  · exact ⟨x, (h x).1 hx, hp⟩
  · exact ⟨x, (h x).2 hx, hp⟩
/-- A set, put in order. -/
theorem lacks_sorted {X : List Nat} (h : Lacks perm plays m n X) : lackB perm plays m ((List.range n).filter fun x => X.contains x) = true := by
  have hmem : ∀ x, x ∈ X ↔ x ∈ (List.range n).filter fun x => X.contains x := fun x => by
    simp only [List.mem_filter, List.mem_range, List.contains_iff_mem]
    exact ⟨fun hx => ⟨h.lt x hx, hx⟩, fun hx => hx.2⟩
  unfold lackB
  rw [← need_congr hmem]
  have := nodup_le h.nd (fun x hx => (hmem x).1 hx)
  have := h.few
  exact decide_eq_true (by omega)
theorem lackB_lacks {X : List Nat} (hs : X.Sublist (List.range n)) (h : lackB perm plays m X = true) : Lacks perm plays m n X :=
  ⟨List.nodup_range.sublist hs, fun x hx => List.mem_range.1 (hs.subset hx), by simpa [lackB] using h⟩
theorem A_lackP : A perm plays m n = true ↔ lackP perm plays m n = none := by
  rw [A_iff]
  constructor
  · intro h
    cases e : lackP perm plays m n with
    | none => rfl
    | some X =>
      obtain ⟨a, b, _⟩ := lackP_some e
      exact absurd (lackB_lacks a b) (h X)
  · intro h X hX
    have := lackP_none h _ (List.filter_sublist (p := fun x => X.contains x) (l := List.range n))
    rw [lacks_sorted hX] at this; cases this
end

/-- By the first place at which they part. -/
def firstL : List Nat → (Nat → Bool) → (Nat → Bool) → Bool
  | [], _, _ => false
  | k :: ks, p, q => if p k != q k then p k else firstL ks p q
theorem first_of_lex : ∀ {l : List Nat} {p q : Nat → Bool}, l.Pairwise (· < ·) → (l.filter p).length = (l.filter q).length → lexlt (l.filter p) (l.filter q) = true → firstL l p q = true
  | [], p, q, _, _, h => by simp [lexlt] at h
  | k :: l, p, q, hl, hlen, h => by
    rw [List.pairwise_cons] at hl
    unfold firstL
    cases hp : p k <;> cases hq : q k <;> simp only [List.filter_cons, hp, hq, if_true, if_false, Bool.false_eq_true] at h hlen ⊢
    · simpa using first_of_lex hl.2 hlen h
    · exfalso
      cases e : l.filter p with
      | nil => rw [e] at h; simp [lexlt] at h
      | cons b r =>
        have hb : k < b := hl.1 b (List.mem_filter.1 (show b ∈ l.filter p by rw [e]; exact List.mem_cons_self ..)).1
        rw [e] at h
        simp [lexlt] at h
        omega
    · simp
    · simp [lexlt] at h
      simpa using first_of_lex hl.2 (by simpa using hlen) h
end Go.Proofs.Ytfdjnadopniaeaa.Kuhn
