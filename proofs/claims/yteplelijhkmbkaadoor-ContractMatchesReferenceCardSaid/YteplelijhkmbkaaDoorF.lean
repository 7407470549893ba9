import Derived.Test.YteplelijhkmbkaaDoorE
namespace Go.Proofs.YteplelijhkmbkaaDoor
open Go Go.Gx Go.RowKit
set_option linter.unusedVariables false
set_option linter.unusedSimpArgs false

theorem Srt.same {c : Int → Int → Bool} {f : Nat → Int} {a b : Nat} (h : (seg f a b).Pairwise (RS c)) : Srt c f f a b := ⟨fun _ _ => rfl, List.Perm.refl _, h⟩
theorem rotF_id {f : Nat → Int} {a m b : Nat} (h1 : a ≤ m) (h2 : m ≤ b) (h : a = m ∨ m = b) : rotF f a m b = f := by
  funext k; unfold rotF
  (repeat' split) <;> first | rfl | (congr 1; omega)
theorem pw_app {c : Int → Int → Bool} {f : Nat → Int} {a m b : Nat} (h1 : a ≤ m) (h2 : m ≤ b) (h : (seg f a b).Pairwise (RS c)) : (seg f a m).Pairwise (RS c) ∧ (seg f m b).Pairwise (RS c) := by
  rw [seg_append h1 h2] at h
  exact ⟨(List.pairwise_append.1 h).1, (List.pairwise_append.1 h).2.1⟩
theorem seg_last {f : Nat → Int} {a b : Nat} {A : List Int} {x : Int} (h : seg f a b = A ++ [x]) : a < b ∧ x = f (b - 1) := by
  have hl : a < b := by
    have := congrArg List.length h
    rw [seg_len] at this; simp at this; omega
  obtain ⟨b', rfl⟩ : ∃ b', b = b' + 1 := ⟨b - 1, by omega⟩
  rw [seg_snoc (by omega)] at h
  have := (List.append_inj' h rfl).2
  simp only [List.cons.injEq, and_true] at this
  exact ⟨hl, this.symm⟩
theorem seg_head {f : Nat → Int} {a b : Nat} {B : List Int} {y : Int} (h : seg f a b = y :: B) : a < b ∧ y = f a := by
  have hl : a < b := by
    have := congrArg List.length h
    rw [seg_len] at this; simp at this; omega
  rw [seg_cons hl] at h
  simp only [List.cons.injEq] at h
  exact ⟨hl, h.1.symm⟩
theorem seg_rot {f : Nat → Int} {a s m e b mid : Nat} (h1 : a ≤ s) (h2 : s ≤ m) (h3 : m ≤ e) (h4 : e ≤ b) (hm : mid + m = s + e) :
    seg (rotF f s m e) a mid = seg f a s ++ seg f m e ∧ seg (rotF f s m e) mid b = seg f s m ++ seg f e b := by
  constructor
  · rw [seg_append (f := rotF f s m e) h1 (by omega : s ≤ mid)]
    congr 1
    · exact seg_congr fun k p q => by unfold rotF; rw [if_neg (by omega), if_neg (by omega)]
    · exact seg_shift (by omega) fun k hk => by unfold rotF; rw [if_pos (by omega)]; congr 1; omega
  · rw [seg_append (f := rotF f s m e) (by omega : mid ≤ e) h4]
    congr 1
    · exact seg_shift (by omega) fun k hk => by unfold rotF; rw [if_neg (by omega), if_pos (by omega)]; congr 1; omega
    · exact seg_congr fun k p q => by unfold rotF; rw [if_neg (by omega), if_neg (by omega)]
/-- Two runs next to each other, the second one of greater numbers. -/
structure Two (c : Int → Int → Bool) (f : Nat → Int) (a m b : Nat) : Prop where
  l : (seg f a m).Pairwise (RS c)
  r : (seg f m b).Pairwise (RS c)
  lt : ∀ k k', a ≤ k → k < m → m ≤ k' → k' < b → f k < f k'
theorem Two.mem {c : Int → Int → Bool} {f : Nat → Int} {a s m e b : Nat} (h : Two c f a m b) (h1 : a ≤ s) (h2 : s ≤ m) (h3 : m ≤ e) (h4 : e ≤ b) : ∀ x ∈ seg f a s ++ seg f s m, ∀ y ∈ seg f m e ++ seg f e b, x < y := by
  intro x hx y hy
  rw [← seg_append h1 h2] at hx
  rw [← seg_append h3 h4] at hy
  obtain ⟨k, p, q, rfl⟩ := mem_seg.1 hx
  obtain ⟨k', p', q', rfl⟩ := mem_seg.1 hy
  exact h.lt k k' p q p' q'
theorem sym_fits {c : Int → Int → Bool} (hc : SW c) {f g1 g2 : Nat → Int} {a s m e b mid : Nat} (h1 : a ≤ s) (h2 : s ≤ m) (h3 : m ≤ e) (h4 : e ≤ b) (hm : mid + m = s + e) (hT : Two c f a m b)
    (k1 : a < s → e < b → c (f e) (f (s - 1)) = false) (k2 : s < m → m < e → c (f (e - 1)) (f s) = true) (hg1 : Srt c (rotF f s m e) g1 a mid) (hg2 : Srt c g1 g2 mid b) : Srt c f g2 a b := by
  obtain ⟨r1, r2⟩ := seg_rot (f := f) h1 h2 h3 h4 hm
  have eX : seg g2 a mid = seg g1 a mid := seg_congr fun k p q => hg2.out k (.inl q)
  have eY : seg g1 mid b = seg (rotF f s m e) mid b := seg_congr fun k p q => hg1.out k (.inr p)
  have pX := hg1.perm
  have pY := hg2.perm
  rw [r1] at pX
  rw [eY, r2] at pY
  have hf := merge_fits hc (L1 := seg f a s) (L2 := seg f s m) (M1 := seg f m e) (M2 := seg f e b) (by rw [← seg_append h1 h2]; exact hT.l) (by rw [← seg_append h3 h4]; exact hT.r) (hT.mem h1 h2 h3 h4)
    (fun A x y B e1 e2 => by obtain ⟨p, rfl⟩ := seg_last e1; obtain ⟨q, rfl⟩ := seg_head e2; exact k1 p q)
    (fun A x y B e1 e2 => by obtain ⟨p, rfl⟩ := seg_last e1; obtain ⟨q, rfl⟩ := seg_head e2; exact k2 q p) pX pY hg1.pw hg2.pw
  have es : seg g2 a b = seg g1 a mid ++ seg g2 mid b := by rw [seg_append (f := g2) (by omega : a ≤ mid) (by omega : mid ≤ b), eX]
  refine ⟨fun k hk => ?_, ?_, ?_⟩
  · rw [hg2.out k (by omega), hg1.out k (by omega)]; unfold rotF; rw [if_neg (by omega), if_neg (by omega)]
  · rw [es, seg_append (f := f) (by omega : a ≤ m) (by omega : m ≤ b), seg_append (f := f) h1 h2, seg_append (f := f) h3 h4]; exact hf.1
  · rw [es]; exact hf.2
/-- The parts of the rotated row, as runs of their own. -/
theorem two_l {c : Int → Int → Bool} {f : Nat → Int} {a s m e b mid : Nat} (h1 : a ≤ s) (h2 : s ≤ m) (h3 : m ≤ e) (h4 : e ≤ b) (hm : mid + m = s + e) (hT : Two c f a m b) : Two c (rotF f s m e) a s mid := by
  refine ⟨?_, ?_, fun k k' p q p' q' => ?_⟩
  · rw [seg_congr (g := f) fun k p q => by unfold rotF; rw [if_neg (by omega), if_neg (by omega)]]
    exact (pw_app h1 h2 hT.l).1
  · rw [seg_shift (g := f) (c := m) (d := e) (by omega) fun k hk => by unfold rotF; rw [if_pos (by omega)]; congr 1; omega]
    exact (pw_app h3 h4 hT.r).1
  · have e1 : rotF f s m e k = f k := by unfold rotF; rw [if_neg (by omega), if_neg (by omega)]
    have e2 : rotF f s m e k' = f (k' - s + m) := by unfold rotF; rw [if_pos (by omega)]
    rw [e1, e2]; exact hT.lt _ _ p (by omega) (by omega) (by omega)
theorem two_r {c : Int → Int → Bool} {f g1 : Nat → Int} {a s m e b mid : Nat} (h1 : a ≤ s) (h2 : s ≤ m) (h3 : m ≤ e) (h4 : e ≤ b) (hm : mid + m = s + e) (hT : Two c f a m b) (hg : ∀ k, mid ≤ k → g1 k = rotF f s m e k) : Two c g1 mid e b := by
  refine ⟨?_, ?_, fun k k' p q p' q' => ?_⟩
  · rw [seg_shift (g := f) (c := s) (d := m) (by omega) fun k hk => by rw [hg _ (by omega)]; unfold rotF; rw [if_neg (by omega), if_pos (by omega)]; congr 1; omega]
    exact (pw_app h1 h2 hT.l).2
  · rw [seg_congr (g := f) fun k p q => by rw [hg _ (by omega)]; unfold rotF; rw [if_neg (by omega), if_neg (by omega)]]
    exact (pw_app h3 h4 hT.r).2
  · have e1 : g1 k = f (k - (e - m)) := by rw [hg k p]; unfold rotF; rw [if_neg (by omega), if_pos (by omega)]
    have e2 : g1 k' = f k' := by rw [hg k' (by omega)]; unfold rotF; rw [if_neg (by omega), if_neg (by omega)]
    rw [e1, e2]; exact hT.lt _ _ (by omega) (by omega) (by omega) (by omega)
/-- The first one taken to its place among those behind. -/
def shR (f : Nat → Int) (a k : Nat) (t : Nat) : Int := if t = k then f a else if a ≤ t ∧ t < k then f (t + 1) else f t
theorem shR_start (f : Nat → Int) (a : Nat) : shR f a a = f := by
  funext t; unfold shR
  split
  · rename_i h; rw [h]
  · rw [if_neg (by omega)]
theorem shR_seg {f : Nat → Int} {a k b : Nat} (h1 : a ≤ k) (h2 : k < b) : seg (shR f a k) a b = seg f (a + 1) (k + 1) ++ f a :: seg f (k + 1) b := by
  rw [seg_append h1 (by omega : k ≤ b), seg_cons (f := shR f a k) (a := k) h2]
  congr 1
  · exact seg_shift (by omega) fun t ht => by unfold shR; rw [if_neg (by omega), if_pos (by omega)]; congr 1; omega
  · congr 1
    · unfold shR; rw [if_pos rfl]
    · exact seg_congr fun t p q => by unfold shR; rw [if_neg (by omega), if_neg (by omega)]
theorem one_left {c : Int → Int → Bool} (hc : SW c) {f : Nat → Int} {a i b : Nat} (h1 : a + 1 ≤ i) (h2 : i ≤ b) (hT : Two c f a (a + 1) b) (k1 : i < b → c (f i) (f a) = false) (k2 : a + 1 < i → c (f (i - 1)) (f a) = true) : Srt c f (shR f a (i - 1)) a b := by
  have ei : i - 1 + 1 = i := by omega
  have es := shR_seg (f := f) (a := a) (k := i - 1) (b := b) (by omega) (by omega)
  rw [ei] at es
  have hr := pw_app h1 h2 hT.r
  have hall : ∀ y ∈ seg f i b, RS c (f a) y := fun y hy => by
    refine cut_fits hc (L1 := [f a]) (L2 := []) (M1 := []) (M2 := seg f i b) (List.pairwise_singleton _ _) hr.2 (fun x hx y hy => ?_) (fun A x y B e1 e2 => ?_) (fun A x y B e1 e2 => absurd e2 (by simp)) (f a) (List.mem_singleton.2 rfl) y hy
    · obtain ⟨k, p, q, rfl⟩ := mem_seg.1 (show y ∈ seg f i b from hy)
      rw [List.mem_singleton.1 (show x ∈ [f a] from hx)]
      exact hT.lt a k (by omega) (by omega) (by omega) q
    · obtain ⟨p, rfl⟩ := seg_head e2
      have : x = f a := by
        have := congrArg List.getLast? e1
        simp at this; exact this.symm
      rw [this]; exact k1 p
  have hf := merge_fits hc (L1 := []) (L2 := [f a]) (M1 := seg f (a + 1) i) (M2 := seg f i b) (X := seg f (a + 1) i) (Y := f a :: seg f i b) (List.pairwise_singleton _ _) (by rw [← seg_append h1 h2]; exact hT.r)
    (fun x hx y hy => by
      rw [← seg_append h1 h2] at hy
      obtain ⟨k, p, q, rfl⟩ := mem_seg.1 hy
      rw [List.mem_singleton.1 (show x ∈ [f a] from hx)]
      exact hT.lt a k (by omega) (by omega) p q)
    (fun A x y B e1 e2 => absurd e1 (by simp))
    (fun A x y B e1 e2 => by
      obtain ⟨p, rfl⟩ := seg_last e1
      simp only [List.cons.injEq] at e2
      rw [← e2.1]; exact k2 p) (List.Perm.refl _) (List.Perm.refl _) hr.1 (List.pairwise_cons.2 ⟨hall, hr.2⟩)
  refine ⟨fun k hk => ?_, ?_, ?_⟩
  · unfold shR; rw [if_neg (by omega), if_neg (by omega)]
  · rw [es, seg_cons (f := f) (by omega : a < b), seg_append (f := f) h1 h2]; exact hf.1
  · rw [es]; exact hf.2
theorem one_right {c : Int → Int → Bool} (hc : SW c) {f : Nat → Int} {a i m : Nat} (h1 : a ≤ i) (h2 : i ≤ m) (hT : Two c f a m (m + 1)) (k1 : a < i → c (f m) (f (i - 1)) = false) (k2 : i < m → c (f m) (f i) = true) : Srt c f (insF f i m) a (m + 1) := by
  have es := insF_seg (g := f) h1 h2
  have hl := pw_app h1 h2 hT.l
  have hlt : ∀ x ∈ seg f a i ++ seg f i m, x < f m := fun x hx => by
    rw [← seg_append h1 h2] at hx
    obtain ⟨k, p, q, rfl⟩ := mem_seg.1 hx
    exact hT.lt k m p q (Nat.le_refl _) (by omega)
  have hall : ∀ y ∈ seg f i m, RS c (f m) y := fun y hy => by
    refine cut_fits hc (L1 := seg f a i) (L2 := seg f i m) (M1 := [f m]) (M2 := []) (by rw [← seg_append h1 h2]; exact hT.l) (List.pairwise_singleton _ _) (fun x hx y hy => ?_) (fun A x y B e1 e2 => absurd e2 (by simp)) (fun A x y B e1 e2 => ?_) (f m) (List.mem_append.2 (.inr (List.mem_singleton.2 rfl))) y (List.mem_append.2 (.inl hy))
    · rw [List.mem_singleton.1 (show y ∈ [f m] from hy)]; exact hlt x hx
    · obtain ⟨p, rfl⟩ := seg_head e2
      have : x = f m := by
        have := congrArg List.getLast? e1
        simp at this; exact this.symm
      rw [this]; exact k2 p
  have hbe : ∀ x ∈ seg f a i, RS c x (f m) := fun x hx => by
    refine cut_fits hc (L1 := seg f a i) (L2 := seg f i m) (M1 := []) (M2 := [f m]) (by rw [← seg_append h1 h2]; exact hT.l) (List.pairwise_singleton _ _) (fun x hx y hy => ?_) (fun A x y B e1 e2 => ?_) (fun A x y B e1 e2 => absurd e1 (by simp)) x (List.mem_append.2 (.inl hx)) (f m) (List.mem_append.2 (.inr (List.mem_singleton.2 rfl)))
    · rw [List.mem_singleton.1 (show y ∈ [f m] from hy)]; exact hlt x hx
    · obtain ⟨p, rfl⟩ := seg_last e1
      simp only [List.cons.injEq] at e2
      rw [← e2.1]; exact k1 p
  refine ⟨fun k hk => ?_, ?_, ?_⟩
  · unfold insF; rw [if_neg (by omega), if_neg (by omega)]
  · rw [es, seg_snoc (by omega), seg_append (f := f) h1 h2]
    exact List.perm_middle.trans (List.perm_append_singleton _ _).symm
  · rw [es]
    refine List.pairwise_append.2 ⟨hl.1, List.pairwise_cons.2 ⟨hall, hl.2⟩, fun x hx y hy => ?_⟩
    rcases List.mem_cons.1 hy with rfl | hy
    · exact hbe x hx
    · have h := hT.l
      rw [seg_append h1 h2] at h
      exact (List.pairwise_append.1 h).2.2 x hx y hy
end Go.Proofs.YteplelijhkmbkaaDoor
