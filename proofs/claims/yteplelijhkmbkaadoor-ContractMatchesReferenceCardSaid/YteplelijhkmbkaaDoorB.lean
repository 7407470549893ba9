import Derived.Test.YteplelijhkmbkaaDoorA
namespace Go.Proofs.YteplelijhkmbkaaDoor
open Go Go.Gx Go.RowKit
set_option linter.unusedVariables false
set_option linter.unusedSimpArgs false

/-! Stable sorting of numbers by a comparison, ties in the order of the numbers. -/
structure SW (c : Int → Int → Bool) : Prop where
  irrefl : ∀ x, c x x = false
  trans : ∀ x y z, c x y = true → c y z = true → c x z = true
  ntrans : ∀ x y z, c x y = false → c y z = false → c x z = false
def RS (c : Int → Int → Bool) (x y : Int) : Prop := c x y = true ∨ (c y x = false ∧ x < y)
theorem RS.trans {c : Int → Int → Bool} (h : SW c) {x y z : Int} (h1 : RS c x y) (h2 : RS c y z) : RS c x z := by
  rcases h1 with h1 | ⟨h1, l1⟩ <;> rcases h2 with h2 | ⟨h2, l2⟩
  · exact .inl (h.trans _ _ _ h1 h2)
  · left
    cases e : c x z with
    | true => rfl
    | false => have := h.ntrans _ _ _ e h2; rw [h1] at this; cases this
  · left
    cases e : c x z with
    | true => rfl
    | false => have := h.ntrans _ _ _ h1 e; rw [h2] at this; cases this
  · exact .inr ⟨h.ntrans _ _ _ h2 h1, by omega⟩
theorem pw_last {c : Int → Int → Bool} {l : List Int} {x z : Int} (h : (l ++ [z]).Pairwise (RS c)) (hx : x ∈ l ++ [z]) : x = z ∨ RS c x z := by
  rcases List.mem_append.1 hx with hx | hx
  · exact .inr ((List.pairwise_append.1 h).2.2 x hx z (List.mem_singleton.2 rfl))
  · exact .inl (List.mem_singleton.1 hx)
theorem pw_head {c : Int → Int → Bool} {l : List Int} {x z : Int} (h : (z :: l).Pairwise (RS c)) (hx : x ∈ z :: l) : x = z ∨ RS c z x := by
  rcases List.mem_cons.1 hx with hx | hx
  · exact .inl hx
  · exact .inr ((List.pairwise_cons.1 h).1 x hx)
theorem rs_chain {c : Int → Int → Bool} (h : SW c) {x a b y : Int} (h1 : x = a ∨ RS c x a) (h2 : RS c a b) (h3 : y = b ∨ RS c b y) : RS c x y := by
  have k : RS c x b := by
    rcases h1 with h1 | h1
    · rw [h1]; exact h2
    · exact h1.trans h h2
  rcases h3 with h3 | h3
  · rw [h3]; exact k
  · exact k.trans h h3
/-- Where two runs are cut so that the parts fit, all of the first parts come ahead of all of the second ones. -/
theorem cut_fits {c : Int → Int → Bool} (h : SW c) {L1 L2 M1 M2 : List Int} (hL : (L1 ++ L2).Pairwise (RS c)) (hM : (M1 ++ M2).Pairwise (RS c)) (hlt : ∀ x ∈ L1 ++ L2, ∀ y ∈ M1 ++ M2, x < y)
    (h1 : ∀ A x y B, L1 = A ++ [x] → M2 = y :: B → c y x = false) (h2 : ∀ A x y B, M1 = A ++ [x] → L2 = y :: B → c x y = true) : ∀ x ∈ L1 ++ M1, ∀ y ∈ L2 ++ M2, RS c x y := by
  have pL := List.pairwise_append.1 hL
  have pM := List.pairwise_append.1 hM
  intro x hx y hy
  rcases List.mem_append.1 hx with hx | hx <;> rcases List.mem_append.1 hy with hy | hy
  · exact pL.2.2 x hx y hy
  · obtain ⟨A, a, rfl⟩ : ∃ A a, L1 = A ++ [a] := ⟨L1.dropLast, L1.getLast (List.ne_nil_of_mem hx), (List.dropLast_concat_getLast _).symm⟩
    cases M2 with
    | nil => cases hy
    | cons b B =>
      have ha : a ∈ (A ++ [a]) ++ L2 := List.mem_append.2 (.inl (List.mem_append.2 (.inr (List.mem_singleton.2 rfl))))
      have hb : b ∈ M1 ++ b :: B := List.mem_append.2 (.inr (List.mem_cons_self ..))
      exact rs_chain h (pw_last pL.1 hx) (.inr ⟨h1 A a b B rfl rfl, hlt a ha b hb⟩) (pw_head pM.2.1 hy)
  · obtain ⟨A, a, rfl⟩ : ∃ A a, M1 = A ++ [a] := ⟨M1.dropLast, M1.getLast (List.ne_nil_of_mem hx), (List.dropLast_concat_getLast _).symm⟩
    cases L2 with
    | nil => cases hy
    | cons b B => exact rs_chain h (pw_last pM.1 hx) (.inl (h2 A a b B rfl rfl)) (pw_head pL.2.1 hy)
  · exact pM.2.2 x hx y hy
theorem merge_fits {c : Int → Int → Bool} (h : SW c) {L1 L2 M1 M2 X Y : List Int} (hL : (L1 ++ L2).Pairwise (RS c)) (hM : (M1 ++ M2).Pairwise (RS c)) (hlt : ∀ x ∈ L1 ++ L2, ∀ y ∈ M1 ++ M2, x < y)
    (h1 : ∀ A x y B, L1 = A ++ [x] → M2 = y :: B → c y x = false) (h2 : ∀ A x y B, M1 = A ++ [x] → L2 = y :: B → c x y = true) (hX : X.Perm (L1 ++ M1)) (hY : Y.Perm (L2 ++ M2)) (pX : X.Pairwise (RS c)) (pY : Y.Pairwise (RS c)) :
    (X ++ Y).Perm ((L1 ++ L2) ++ (M1 ++ M2)) ∧ (X ++ Y).Pairwise (RS c) := by
  refine ⟨(hX.append hY).trans ?_, List.pairwise_append.2 ⟨pX, pY, fun x hx y hy => cut_fits h hL hM hlt h1 h2 x (hX.mem_iff.1 hx) y (hY.mem_iff.1 hy)⟩⟩
  rw [List.append_assoc, List.append_assoc]
  refine List.Perm.append_left _ ?_
  rw [← List.append_assoc, ← List.append_assoc]
  exact List.Perm.append_right _ List.perm_append_comm
/-- A number is put into a run. -/
theorem put_fits {c : Int → Int → Bool} (h : SW c) {A B : List Int} {x : Int} (hp : (A ++ B).Pairwise (RS c)) (hlt : ∀ y ∈ A ++ B, y < x) (h1 : ∀ A' y, A = A' ++ [y] → c x y = false) (h2 : ∀ b ∈ B, c x b = true) : (A ++ x :: B).Pairwise (RS c) := by
  have p := List.pairwise_append.1 hp
  refine List.pairwise_append.2 ⟨p.1, List.pairwise_cons.2 ⟨fun b hb => .inl (h2 b hb), p.2.1⟩, fun a ha y hy => ?_⟩
  rcases List.mem_cons.1 hy with hy | hy
  · subst hy
    obtain ⟨A', z, rfl⟩ : ∃ A' z, A = A' ++ [z] := ⟨A.dropLast, A.getLast (List.ne_nil_of_mem ha), (List.dropLast_concat_getLast _).symm⟩
    have hz : z < y := hlt z (List.mem_append.2 (.inl (List.mem_append.2 (.inr (List.mem_singleton.2 rfl)))))
    exact rs_chain h (pw_last p.1 ha) (.inr ⟨h1 A' z rfl, hz⟩) (.inl rfl)
  · exact p.2.2 a ha y hy
/-- The sorted order is one alone. -/
theorem rs_asymm {c : Int → Int → Bool} (h : SW c) {x y : Int} (h1 : RS c x y) (h2 : RS c y x) : False := by
  have k := h1.trans h h2
  rcases k with k | ⟨_, k⟩
  · rw [h.irrefl] at k; cases k
  · omega
theorem rs_uniq {c : Int → Int → Bool} (h : SW c) : ∀ {l1 l2 : List Int}, l1.Perm l2 → l1.Pairwise (RS c) → l2.Pairwise (RS c) → l1 = l2
  | [], l2, hp, _, _ => (List.nil_perm.1 hp).symm
  | a :: r1, [], hp, _, _ => absurd hp.length_eq (by simp)
  | a :: r1, b :: r2, hp, h1, h2 => by
    have ha : a ∈ b :: r2 := hp.mem_iff.1 (List.mem_cons_self ..)
    have hb : b ∈ a :: r1 := hp.mem_iff.2 (List.mem_cons_self ..)
    rw [List.pairwise_cons] at h1 h2
    have e : a = b := by
      rcases List.mem_cons.1 hb with hb | hb
      · exact hb.symm
      · rcases List.mem_cons.1 ha with ha | ha
        · exact ha
        · exact (rs_asymm h (h1.1 b hb) (h2.1 a ha)).elim
    subst e
    rw [rs_uniq h (List.Perm.cons_inv hp) h1.2 h2.2]
/-! Exchanges and rotations, by places. -/
def swapF {α : Type} (f : Nat → α) (a b n : Nat) (k : Nat) : α := if a ≤ k ∧ k < a + n then f (k - a + b) else if b ≤ k ∧ k < b + n then f (k - b + a) else f k
def rotF {α : Type} (f : Nat → α) (a m b : Nat) (k : Nat) : α := if a ≤ k ∧ k < a + (b - m) then f (k - a + m) else if a + (b - m) ≤ k ∧ k < b then f (k - (b - m)) else f k
theorem swapF_zero {α : Type} (f : Nat → α) (a b : Nat) : swapF f a b 0 = f := by
  funext k; unfold swapF; rw [if_neg (by omega), if_neg (by omega)]
theorem swapF_succ {α : Type} (f : Nat → α) {a b i : Nat} (h : a + (i + 1) ≤ b) (k : Nat) : swapF f a b (i + 1) k = if k = a + i then swapF f a b i (b + i) else if k = b + i then swapF f a b i (a + i) else swapF f a b i k := by
  unfold swapF
  by_cases h1 : k = a + i
  · subst h1; rw [if_pos (by omega), if_pos rfl, if_neg (by omega), if_neg (by omega)]; congr 1; omega
  · rw [if_neg h1]
    by_cases h2 : k = b + i
    · subst h2; rw [if_neg (by omega), if_pos (by omega), if_pos rfl, if_neg (by omega), if_neg (by omega)]; congr 1; omega
    · rw [if_neg h2]
      by_cases h3 : a ≤ k ∧ k < a + i
      · rw [if_pos (by omega), if_pos h3]
      · rw [if_neg (by omega), if_neg h3]
        by_cases h4 : b ≤ k ∧ k < b + i
        · rw [if_pos (by omega), if_pos h4]
        · rw [if_neg (by omega), if_neg h4]
theorem rot_more {α : Type} (f : Nat → α) {m i j : Nat} (hi : i ≤ m) (h : j < i) : rotF (swapF f (m - i) m j) (m - i + j) m (m + j) = rotF f (m - i) m (m + j) := by
  funext k
  unfold rotF swapF
  (repeat' split) <;> first | rfl | (congr 1; omega) | (exfalso; omega)
theorem rot_less {α : Type} (f : Nat → α) {m i j : Nat} (hi : i ≤ m) (h : i < j) : rotF (swapF f (m - i) (m + j - i) i) (m - i) m (m + (j - i)) = rotF f (m - i) m (m + j) := by
  funext k
  unfold rotF swapF
  (repeat' split) <;> first | rfl | (congr 1; omega) | (exfalso; omega)
theorem rot_even {α : Type} (f : Nat → α) {m i : Nat} (hi : i ≤ m) : swapF f (m - i) m i = rotF f (m - i) m (m + i) := by
  funext k
  unfold rotF swapF
  (repeat' split) <;> first | rfl | (congr 1; omega) | (exfalso; omega)

/-- A list told by its places. -/
def tab (f : Nat → Int) (N : Nat) : List Int := (List.range N).map f
theorem tab_len {f : Nat → Int} {N : Nat} : (tab f N).length = N := by simp [tab]
theorem tab_nth {f : Nat → Int} {N i : Nat} {j : Int} (h : i < N) (hj : j = i) : nth (tab f N) j = f i := by
  subst hj; unfold nth tab; simp [h]
theorem tab_ext {f g : Nat → Int} {N : Nat} (h : ∀ k, k < N → f k = g k) : tab f N = tab g N := by
  unfold tab; exact List.map_congr_left fun k hk => h k (List.mem_range.1 hk)
theorem tab_set {f : Nat → Int} {N i : Nat} {x : Int} (h : i < N) : (tab f N).set i x = tab (fun k => if k = i then x else f k) N := by
  apply List.ext_getElem?
  intro k
  unfold tab
  rw [List.getElem?_set]
  by_cases hk : k < N
  · by_cases e : i = k
    · subst e; simp [h]
    · rw [if_neg e]; simp [hk, Ne.symm e]
  · split
    · omega
    · rw [List.getElem?_eq_none (by simp; omega), List.getElem?_eq_none (by simp; omega)]
theorem tab_put {f : Nat → Int} {N i : Nat} {j x : Int} (h : i < N) (hj : j = i) : (tab f N).set j.toNat x = tab (fun k => if k = i then x else f k) N := by
  subst hj; exact tab_set h
abbrev rowT (v : Value) (f : Nat → Int) (N : Nat) : Ob := rowOb (fInt .i64) 3 v (tab f N)
theorem rowT_ext {v : Value} {f g : Nat → Int} {N : Nat} (h : ∀ k, k < N → f k = g k) : rowT v f N = rowT v g N := by
  unfold rowT; rw [tab_ext h]
theorem swapR_run {v cv : Value} {f : Nat → Int} {N a b n : Nat} {ex : List Ob} {w0 w : World} (S : St w0 w (rowT v f N :: ex)) (hab : a + n ≤ b) (hb : b + n ≤ N) (hN : N ≤ 1000000000) :
    CallsW Tryd.prog 64 #[v, .int .i64 (a : Int), .int .i64 (b : Int), .int .i64 (n : Int), cv] w (fun _ w' => St w0 w' (rowT v (swapF f a b n) N :: ex)) := by
  refine CallsW.mk ?_
  refine calls_enter Tryd.func64 rfl (by intro _ h; first | exact nomatch h.1 | (obtain ⟨_, h, _⟩ := h; exact nomatch h)) Tryd.ntmps64 rfl ?_
  repeat' (first | refine WP_seq ?_ | refine WP_region ?_ | refine wl_nil ?_ | refine then_normal ?_ | refine WP_block ?_ | (refine g_assign ?_; refine st_assign rfl ?_))
  refine WP_loop (fun k σ w1 => ∃ i : Nat, Has σ [(0, v), (1, .int .i64 (a : Int)), (2, .int .i64 (b : Int)), (3, .int .i64 (n : Int)), (10, .int .i64 (i : Int))] ∧ St w0 w1 (rowT v (swapF f a b i) N :: ex) ∧ i ≤ n ∧ k = n - i) n ⟨0, ⟨rfl, rfl, rfl, rfl, rfl, trivial⟩, by rw [swapF_zero]; exact S, by omega, rfl⟩ ?_
  clear S
  rintro k σ w1 ⟨i, hs, S, hi, rfl⟩
  refine WP_has hs ?_
  have hl := @tab_len (swapF f a b i) N
  by_cases hin : i < n
  · repeat' (first | refine WP_seq ?_ | refine WP_region ?_ | refine wl_nil ?_ | refine then_normal ?_ | refine WP_skip ?_ | refine WP_block ?_ | (refine Pm.WP_drawPerm [0,1,2,3,8,9,10,11,12,13,14,15,16,17,18,19] [4,5,6,7] [20,21,22,23] (by kernel_rfl) (by decide +kernel) (by decide +kernel) ?_; intro w hb; replace S := S.grow hb; clear hb) | (refine ql_nil ?_; intro w hb; replace S := S.grow hb; clear hb) | (refine g_move ?_; refine st_move rfl ?_) | (refine g_b_lss ?_; refine st_val rfl (r_lss rfl rfl) ?_) | (refine g_indexAddr ?_; (refine st_val rfl (r_indexAddr (S.rdRow (D := (fInt .i64)) (i := 0) rfl) rfl rfl ?_ ?_) ?_; (first | omega | (simp <;> omega)); (first | omega | (simp <;> omega)))) | (refine gq_move ?_; refine q_move rfl ?_) | (refine gq_b_add ?_; (refine q_val rfl (fun w' hb => r_addN rfl rfl ?_ ?_) ?_; (first | omega | (simp <;> omega)); (first | omega | (simp <;> omega)))) | (refine gq_indexAddr ?_; (refine q_val rfl (fun w' hb => r_indexAddr ((S.grow hb).rdRow (D := (fInt .i64)) (i := 0) rfl) rfl rfl ?_ ?_) ?_; (first | omega | (simp <;> omega)); (first | omega | (simp <;> omega)))) | (refine gq_load ?_; (refine q_val rfl (fun w' hb => r_loadElem1 ((S.grow hb).rdRow (D := (fInt .i64)) (i := 0) rfl) rfl ?_ ?_ rfl) ?_; (first | omega | (simp <;> omega)); (first | omega | (simp <;> omega)))) | (refine Pm.qp_nil ?_; intro w hb; replace S := S.grow hb; clear hb) | (refine Pm.qp_val rfl (fun w' => r_addN rfl rfl ?_ ?_) ?_; omega; omega) | (refine Pm.qp_val rfl (fun w' => ⟨rfl⟩) ?_) | (refine WP_cond rfl (fun h => ?_) (fun h => ?_) <;> (fail_if_success (have hh : true = true := h)) <;> (fail_if_success (have hh : false = false := h)) <;> (try simp only [decide_eq_true_eq, decide_eq_false_iff_not, Bool.not_eq_true', Bool.not_eq_false', Int.not_lt, Int.not_le] at h) <;> (try (exfalso; omega))))
    refine st_skipE rfl (r_storeElem (i := 0) (D := fInt .i64) S rfl rfl rfl rfl (fun c hc => by cases List.mem_singleton.1 hc; rfl) (by omega) (by omega)) ?_
    intro w S'
    replace S : St w0 w (rowT v (fun k => if k = a + i then swapF f a b i (b + i) else swapF f a b i k) N :: ex) := by
      rw [tab_put (i := a + i) (by omega) (by omega), tab_nth (i := b + i) (by omega) (by omega)] at S'; exact S'
    clear S'
    have hl := @tab_len (fun k => if k = a + i then swapF f a b i (b + i) else swapF f a b i k) N
    repeat' ((refine g_indexAddr ?_; (refine st_val rfl (r_indexAddr (S.rdRow (D := (fInt .i64)) (i := 0) rfl) rfl rfl ?_ ?_) ?_; (first | omega | (simp <;> omega)); (first | omega | (simp <;> omega)))))
    refine st_skipE rfl (r_storeElem (i := 0) (D := fInt .i64) S rfl rfl rfl rfl (fun c hc => by cases List.mem_singleton.1 hc; rfl) (by omega) (by omega)) ?_
    intro w S'
    replace S : St w0 w (rowT v (swapF f a b (i + 1)) N :: ex) := by
      rw [tab_put (i := b + i) (by omega) (by omega), tab_nth (i := a + i) (by omega) (by omega)] at S'
      refine S'.eqos (congrArg (· :: ex) (rowT_ext fun k hk => ?_))
      rw [swapF_succ f (by omega)]
      (repeat' split) <;> first | rfl | omega
    clear S'
    repeat' (first | refine WP_region ?_ | refine wl_nil ?_ | refine then_normal ?_ | refine inB_normal ?_ | (refine g_move ?_; refine st_move rfl ?_) | (refine g_assign ?_; refine st_assign rfl ?_) | (refine g_b_add ?_; (refine st_val rfl (r_addN rfl rfl ?_ ?_) ?_; (first | omega | (simp <;> omega)); (first | omega | (simp <;> omega)))))
    refine ⟨⟨_, ?_, i + 1, ⟨rfl, rfl, rfl, rfl, ?_, trivial⟩, S, by omega, rfl⟩⟩
    · omega
    · show Value.int .i64 ((i : Int) + 1) = _
      rw [show ((i + 1 : Nat) : Int) = (i : Int) + 1 by omega]
  · repeat' (first | refine WP_seq ?_ | refine WP_region ?_ | refine wl_nil ?_ | refine then_normal ?_ | (refine g_move ?_; refine st_move rfl ?_) | (refine g_b_lss ?_; refine st_val rfl (r_lss rfl rfl) ?_))
    refine WP_cond rfl (fun h => absurd (of_decide_eq_true h) (by omega)) (fun h => ?_)
    refine WP_exit ?_
    refine then_exit ?_
    refine then_exit ?_
    refine inB_here ?_
    have e : i = n := by omega
    subst e
    exact end0 rfl ⟨_, rfl, S⟩
end Go.Proofs.YteplelijhkmbkaaDoor
