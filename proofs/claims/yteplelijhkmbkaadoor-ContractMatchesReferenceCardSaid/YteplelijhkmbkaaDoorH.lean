import Derived.Test.YteplelijhkmbkaaDoorG2
namespace Go.Proofs.YteplelijhkmbkaaDoor
open Go Go.Gx Go.RowKit
set_option linter.unusedVariables false
set_option linter.unusedSimpArgs false

/-- A sorted part that holds the numbers of its places. -/
structure Run (c : Int → Int → Bool) (g : Nat → Int) (a b : Nat) : Prop where
  pw : (seg g a b).Pairwise (RS c)
  own : ∀ k, a ≤ k → k < b → (a : Int) ≤ g k ∧ g k < b
theorem Run.congr {c : Int → Int → Bool} {g g' : Nat → Int} {a b : Nat} (h : Run c g a b) (he : ∀ k, a ≤ k → k < b → g' k = g k) : Run c g' a b :=
  ⟨by rw [seg_congr he]; exact h.pw, fun k p q => by rw [he k p q]; exact h.own k p q⟩
theorem Run.two {c : Int → Int → Bool} {g : Nat → Int} {a m b : Nat} (h1 : Run c g a m) (h2 : Run c g m b) : Two c g a m b :=
  ⟨h1.pw, h2.pw, fun k k' p q p' q' => by have := (h1.own k p q).2; have := (h2.own k' p' q').1; omega⟩
theorem Srt.run {c : Int → Int → Bool} {f g : Nat → Int} {a b : Nat} (h : Srt c f g a b) (hf : ∀ k, a ≤ k → k < b → (a : Int) ≤ f k ∧ f k < b) : Run c g a b :=
  ⟨h.pw, fun k p q => by
    obtain ⟨k', p', q', e⟩ := mem_seg.1 (h.perm.mem_iff.1 (mem_seg.2 ⟨k, p, q, rfl⟩))
    rw [e]; exact hf k' p' q'⟩
theorem Run.merge {c : Int → Int → Bool} {g g' : Nat → Int} {a m b : Nat} (h1 : Run c g a m) (h2 : Run c g m b) (ham : a ≤ m) (hmb : m ≤ b) (h : Srt c g g' a b) : Run c g' a b :=
  h.run fun k p q => by
    by_cases hk : k < m
    · have := h1.own k p hk; omega
    · have := h2.own k (by omega) q; omega
theorem Srt.all {c : Int → Int → Bool} {f g : Nat → Int} {a b N : Nat} (h : Srt c f g a b) (hab : a ≤ b) (hb : b ≤ N) : (seg g 0 N).Perm (seg f 0 N) := by
  rw [seg_append (f := g) (Nat.zero_le a) (by omega : a ≤ N), seg_append (f := g) hab hb, seg_append (f := f) (Nat.zero_le a) (by omega : a ≤ N), seg_append (f := f) hab hb]
  rw [seg_congr (f := g) (g := f) (a := 0) fun k p q => h.out k (.inl q), seg_congr (f := g) (g := f) (a := b) fun k p q => h.out k (.inr p)]
  exact List.Perm.append_left _ (h.perm.append_right _)
abbrev idf : Nat → Int := fun k => (k : Int)
theorem perm_own {g : Nat → Int} {N : Nat} (h : (seg g 0 N).Perm (seg idf 0 N)) : ∀ k, k < N → 0 ≤ g k ∧ g k < N := fun k hk => by
  obtain ⟨k', p', q', e⟩ := mem_seg.1 (h.mem_iff.1 (mem_seg.2 ⟨k, by omega, hk, rfl⟩))
  rw [e]; simp only [idf]; omega
/-- Runs of a length, up to a place. -/
inductive Fr (c : Int → Int → Bool) (g : Nat → Int) (s : Nat) : Nat → Prop
  | zero : Fr c g s 0
  | snoc {a : Nat} : Fr c g s a → Run c g a (a + s) → Fr c g s (a + s)
/-- Runs of a length, from a place on; the last one may be shorter. -/
inductive Runs (c : Int → Int → Bool) (g : Nat → Int) (s N : Nat) : Nat → Prop
  | done {a : Nat} : N ≤ a → Runs c g s N a
  | next {a : Nat} : Run c g a (min (a + s) N) → Runs c g s N (a + s) → Runs c g s N a
theorem Fr.congr {c : Int → Int → Bool} {g g' : Nat → Int} {s a : Nat} (h : Fr c g s a) (he : ∀ k, k < a → g' k = g k) : Fr c g' s a := by
  induction h with
  | zero => exact .zero
  | snoc h hr ih => exact .snoc (ih fun k hk => he k (by omega)) (hr.congr fun k p q => he k q)
theorem Runs.congr {c : Int → Int → Bool} {g g' : Nat → Int} {s N a : Nat} (h : Runs c g s N a) (he : ∀ k, a ≤ k → g' k = g k) : Runs c g' s N a := by
  induction h with
  | done h => exact .done h
  | next h hr ih => exact .next (h.congr fun k p q => he k p) (ih fun k hk => he k (by omega))
theorem Fr.runs {c : Int → Int → Bool} {g : Nat → Int} {s N a : Nat} (h : Fr c g s a) (ha : a ≤ N) (hr : Runs c g s N a) : Runs c g s N 0 := by
  induction h with
  | zero => exact hr
  | snoc h h1 ih => exact ih (by omega) (.next (by rw [Nat.min_eq_left ha]; exact h1) hr)
theorem Runs.inv {c : Int → Int → Bool} {g : Nat → Int} {s N a : Nat} (h : Runs c g s N a) (ha : a < N) : Run c g a (min (a + s) N) ∧ Runs c g s N (a + s) := by
  cases h with
  | done h => exact absurd h (by omega)
  | next h1 h2 => exact ⟨h1, h2⟩
theorem sym_all {sp : List GSpot} {sv : Value} {w0 : World} (hr : Rd fGSpot.ty w0 sv sp) (n : Nat) : SymP sp sv w0 n := by
  induction n with
  | zero => intro v bc f N a m b x y z ex w hn S hx hy hz ham hmb; omega
  | succ n ih => exact sym_step hr n ih
theorem sym_run {sp : List GSpot} {sv v : Value} {bc : Nat} {f : Nat → Int} {N a m b : Nat} {x y z : Int} {ex : List Ob} {w0 w : World} (S : St w0 w (rowT v f N :: .var bc 36 [sv] :: ex)) (hr : Rd fGSpot.ty w0 sv sp) (hx : x = a) (hy : y = m) (hz : z = b) (ham : a < m) (hmb : m < b) (hb : b ≤ N) (hN : N ≤ 1000000000)
    (hf : ∀ k, k < N → 0 ≤ f k ∧ f k < sp.length) (hT : Two (cS sp) f a m b) :
    CallsW Tryd.prog 62 #[v, .int .i64 x, .int .i64 y, .int .i64 z, cv51 bc] w (fun _ w' => ∃ g, Srt (cS sp) f g a b ∧ St w0 w' (rowT v g N :: .var bc 36 [sv] :: ex)) :=
  sym_all hr (b - a) (Nat.le_refl _) S hx hy hz ham hmb hb hN hf hT
theorem ins_run0 {sp : List GSpot} {sv v : Value} {bc : Nat} {f : Nat → Int} {N a b : Nat} {x y : Int} {ex : List Ob} {w0 w : World} (S : St w0 w (rowT v f N :: .var bc 36 [sv] :: ex)) (hr : Rd fGSpot.ty w0 sv sp) (hx : x = a) (hy : y = b) (hab : a ≤ b) (hb : b ≤ N) (hN : N ≤ 1000000000)
    (hf : ∀ k, k < N → 0 ≤ f k ∧ f k < sp.length) (hasc : ∀ k k', a ≤ k → k < k' → k' < b → f k < f k') :
    CallsW Tryd.prog 61 #[v, .int .i64 x, .int .i64 y, cv51 bc] w (fun _ w' => ∃ g, Srt (cS sp) f g a b ∧ St w0 w' (rowT v g N :: .var bc 36 [sv] :: ex)) := by
  by_cases hlt : a < b
  · exact ins_run S hr hx hy hlt hb hN hf hasc
  have e : b = a := by omega
  subst e hx hy
  refine CallsW.mk ?_
  refine calls_enter Tryd.func61 rfl (by intro _ h; first | exact nomatch h.1 | (obtain ⟨_, h, _⟩ := h; exact nomatch h)) Tryd.ntmps61 rfl ?_
  repeat' (first | refine WP_seq ?_ | refine WP_region ?_ | refine wl_nil ?_ | refine then_normal ?_ | refine WP_block ?_ | (refine g_move ?_; refine st_move rfl ?_) | (refine g_assign ?_; refine st_assign rfl ?_) | (refine g_b_add ?_; (refine st_val rfl (r_addN rfl rfl ?_ ?_) ?_; (first | omega | (simp <;> omega)); (first | omega | (simp <;> omega)))))
  refine WP_loop (fun k σ w1 => ∃ (p : Int), Has σ [(2, .int .i64 (b : Int)), (8, .int .i64 p)] ∧ St w0 w1 (rowT v f N :: .var bc 36 [sv] :: ex) ∧ p = (b : Int) + 1 ∧ k = 0) 0 ⟨_, ⟨rfl, rfl, trivial⟩, S, by omega, rfl⟩ ?_
  clear S
  rintro k σ w1 ⟨p, hs, S, hp, rfl⟩
  refine WP_has hs ?_
  repeat' (first | refine WP_seq ?_ | refine WP_region ?_ | refine wl_nil ?_ | refine then_normal ?_ | (refine g_move ?_; refine st_move rfl ?_) | (refine g_b_lss ?_; refine st_val rfl (r_lss rfl rfl) ?_))
  refine WP_cond rfl (fun h => absurd (of_decide_eq_true h) (by omega)) (fun h => ?_)
  refine WP_exit ?_
  refine then_exit ?_
  refine then_exit ?_
  refine inB_here ?_
  exact end0 rfl ⟨_, rfl, f, ⟨fun _ _ => rfl, List.Perm.refl _, by rw [seg_nil (Nat.le_refl _)]; exact List.Pairwise.nil⟩, S⟩
end Go.Proofs.YteplelijhkmbkaaDoor
