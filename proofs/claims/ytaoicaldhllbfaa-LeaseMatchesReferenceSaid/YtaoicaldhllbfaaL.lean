import Derived.Test.YtaoicaldhllbfaaK
namespace Go.Proofs.Ytaoicaldhllbfaa
open Go Go.Gx Go.RowKit
set_option linter.unusedVariables false
set_option linter.unusedSimpArgs false

theorem nth_append_left {α : Type} [Inhabited α] {l m : List α} {j : Int} (h0 : 0 ≤ j) (h : j < l.length) : nth (l ++ m) j = nth l j := by
  unfold nth
  rw [List.getD_eq_getElem?_getD, List.getD_eq_getElem?_getD, List.getElem?_append_left (by omega)]
theorem nth_append_last {α : Type} [Inhabited α] {l : List α} {x : α} {j : Int} (h : j = l.length) : nth (l ++ [x]) j = x := by
  subst h
  unfold nth
  rw [List.getD_eq_getElem?_getD, List.getElem?_append_right (by omega)]
  simp
theorem nth_take {α : Type} [Inhabited α] {l : List α} {j : Int} {n : Nat} (h0 : 0 ≤ j) (h : j < n) : nth (l.take n) j = nth l j := by
  unfold nth
  rw [List.getD_eq_getElem?_getD, List.getD_eq_getElem?_getD, List.getElem?_take, if_pos (by omega)]

/-- The j-th request of a story. -/
theorem mkS_nth (s : Stry) {m : Nat} {j : Int} (h0 : 0 ≤ j) (h : j < m) : nth (mkS s m).l j = mkReq s (nth s.reqs j) (mkS s (j + 1).toNat).t := by
  induction m with
  | zero => omega
  | succ m ih =>
    obtain ⟨L1, _, _⟩ := mkS_len s m
    by_cases e : j = m
    · subst e
      rw [show ((m : Int) + 1).toNat = m + 1 by omega]
      simp only [mkS]
      rw [nth_append_last (by omega)]
    · simp only [mkS]
      rw [nth_append_left h0 (by omega), ih (by omega)]
theorem mkReq_ok (s : Stry) (x : GArr5Int) {t : Int} (h0 : 60 ≤ t) (h1 : t ≤ 4000) : okR (mkReq s x t) := by
  have a := pickI_range (c := x.a0) (n := 3) (by omega)
  have b := pickI_range (c := x.a2) (n := 60) (by omega)
  have c := pickI_range (c := x.a4) (n := 400) (by omega)
  have d := shown_range (s := s) (k := pickI x.a0 3) (t := t - pickI x.a2 60) (by omega)
  have e := shown_range (s := s) (k := 3) (t := t) (by omega)
  unfold okR mkReq
  simp only []
  omega
theorem mkS_ok (s : Stry) {m : Nat} (hm : m ≤ 14) : ∀ x ∈ (mkS s m).l, okR x := by
  induction m with
  | zero => intro x hx; simp [mkS] at hx
  | succ m ih =>
    intro x hx
    simp only [mkS, List.mem_append, List.mem_singleton] at hx
    rcases hx with hx | hx
    · exact ih (by omega) x hx
    · rw [hx]
      have a := mkS_t s m
      have b := pickI_range (c := (nth s.reqs (m : Int)).a1) (n := 250) (by omega)
      exact mkReq_ok s _ (by omega) (by omega)
theorem okR_bad {x : GRequest} (h : okR x) : badReq x = false := by
  unfold okR at h
  simp [badReq, inR]; omega
theorem mkS_valid (s : Stry) : validReqs (mkS s s.n).l = true := by
  obtain ⟨L1, _, _⟩ := mkS_len s s.n
  have hn : s.n ≤ 14 := by unfold Stry.n; omega
  unfold validReqs
  simp only [Bool.and_eq_true, decide_eq_true_eq, Bool.not_eq_true']
  refine ⟨⟨by omega, ?_⟩, ?_⟩
  · rw [List.any_eq_false]
    intro x hx
    rw [okR_bad (mkS_ok s hn x hx)]; decide
  · rw [sortedReq_iff]
    intro j h0 h1
    rw [mkS_nth s (by omega) (by omega), mkS_nth s h0 (by omega), cmpI_lt]
    have a := mkS_t s (j + 1).toNat
    have e : (mkS s (j + 1 + 1).toNat).t = (mkS s (j + 1).toNat).t + pickI (nth s.reqs (j + 1)).a1 250 := by
      rw [show (j + 1 + 1).toNat = (j + 1).toNat + 1 by omega]
      simp only [mkS, Int.toNat_of_nonneg (show 0 ≤ j + 1 by omega)]
    have b := pickI_range (c := (nth s.reqs (j + 1)).a1) (n := 250) (by omega)
    have c := shownS_mono (s := s) (k := 3) (t := (mkS s (j + 1).toNat).t) (t' := (mkS s (j + 1 + 1).toNat).t) (by omega) (by omega)
    simp only [mkReq]
    omega

/-! ### What is granted, one by one -/
theorem runL_append (l m : List GRequest) : ∃ r, (runL (l ++ m)).2 = (runL l).2 ++ r := by
  have key : ∀ (m : List GRequest) (st : GLease × List GLease), ∃ r, (m.foldl stepL st).2 = st.2 ++ r := by
    intro m
    induction m with
    | nil => intro st; exact ⟨[], by simp⟩
    | cons a m ih =>
      intro st
      obtain ⟨r, hr⟩ := ih (stepL st a)
      rw [List.foldl_cons, hr]
      unfold stepL
      split
      · exact ⟨[zL] ++ r, by simp⟩
      · exact ⟨[grantL st.1 a] ++ r, by simp⟩
  obtain ⟨r, hr⟩ := key m (runL l)
  exact ⟨r, by rw [← hr, runL, runL, List.foldl_append]⟩
theorem runL_nth {l : List GRequest} {i : Int} (h0 : 0 ≤ i) (h : i < l.length) : nth (runL l).2 i = if skipL (runL (l.take i.toNat)).1 (nth l i) = true then zL else grantL (runL (l.take i.toNat)).1 (nth l i) := by
  have e : l = l.take (i + 1).toNat ++ l.drop (i + 1).toNat := (List.take_append_drop _ _).symm
  obtain ⟨r, hr⟩ := runL_append (l.take (i + 1).toNat) (l.drop (i + 1).toNat)
  rw [← e, take_snoc h0 h, runL_snoc] at hr
  have hl : (runL (l.take i.toNat)).2.length = i.toNat := by rw [runL_len, List.length_take]; omega
  rw [hr]
  unfold stepL
  split
  · rw [nth_append_left h0 (by simp; omega), nth_append_last (by omega)]
  · rw [nth_append_left h0 (by simp; omega), nth_append_last (by omega)]
theorem okL_run {l : List GRequest} (h : ∀ x ∈ l, okR x) : ∀ {i : Int}, 0 ≤ i → i ≤ l.length → okL i (runL (l.take i.toNat)).1 := by
  intro i h0
  obtain ⟨n, rfl⟩ : ∃ n : Nat, i = n := ⟨i.toNat, by omega⟩
  clear h0
  induction n with
  | zero => intro _; simp [runL, okL, zL]
  | succ n ih =>
    intro h1
    have := ih (by omega)
    have hx := h _ (List.mem_of_getElem? (nth_get (l := l) (i := (n : Int)) (by omega) (by omega)))
    have e := take_snoc (l := l) (i := (n : Int)) (by omega) (by omega)
    rw [show (((n + 1 : Nat) : Int)).toNat = ((n : Int) + 1).toNat by omega, e, runL_snoc]
    have z := okL_step this hx
    simpa using z
theorem skipL_zero {x : GLease} {r : GRequest} (h : x.Epoch = 0) : skipL x r = false := by simp [skipL, freeL, h]
theorem grant_ne_zL {x : GLease} {r : GRequest} (h : 0 ≤ x.Epoch) : grantL x r ≠ zL := by
  intro e
  have := congrArg GLease.Epoch e
  simp [grantL, zL] at this
  omega
theorem maxL_snoc' {α : Type} [Inhabited α] (cf : α → α → Int) (l : List α) (x : α) (h : l ≠ []) : maxL cf (l ++ [x]) = if 0 < cf x (maxL cf l) then x else maxL cf l := by
  cases l with
  | nil => exact absurd rfl h
  | cons a r =>
    simp only [List.cons_append, maxL, List.foldl_append, List.foldl_cons, List.foldl_nil]
    rfl
theorem max_run {l : List GRequest} (hok : ∀ x ∈ l, okR x) (hne : l ≠ []) : maxL cfE (runL l).2 = (runL l).1 ∧ 1 ≤ (runL l).1.Epoch := by
  have key : ∀ n : Nat, n + 1 ≤ l.length → maxL cfE (runL (l.take (n + 1))).2 = (runL (l.take (n + 1))).1 ∧ 1 ≤ (runL (l.take (n + 1))).1.Epoch := by
    intro n
    induction n with
    | zero =>
      intro h
      have e := take_snoc (l := l) (i := 0) (by omega) (by omega)
      simp only [Int.toNat_zero, List.take_zero, List.nil_append] at e
      rw [show 0 + 1 = ((0 : Int) + 1).toNat by rfl, e]
      have hs : skipL zL (nth l 0) = false := skipL_zero rfl
      have e2 : runL [nth l 0] = (grantL zL (nth l 0), [grantL zL (nth l 0)]) := by
        simp [runL, stepL, hs]
      rw [e2]
      exact ⟨rfl, by simp [grantL, zL]⟩
    | succ n ih =>
      intro h
      obtain ⟨h1, h2⟩ := ih (by omega)
      have e := take_snoc (l := l) (i := ((n + 1 : Nat) : Int)) (by omega) (by omega)
      rw [show (((n + 1 : Nat) : Int) + 1).toNat = n + 1 + 1 by omega, show (((n + 1 : Nat) : Int)).toNat = n + 1 by omega] at e
      rw [e, runL_snoc]
      have hl : (runL (l.take (n + 1))).2 ≠ [] := by
        intro e0
        have := congrArg List.length e0
        rw [runL_len, List.length_take] at this
        simp only [List.length_nil] at this; omega
      unfold stepL
      split
      · refine ⟨?_, h2⟩
        simp only []
        rw [maxL_snoc' _ _ _ hl, h1, if_neg]
        unfold cfE cmpI zL
        simp only []
        (repeat' split) <;> omega
      · refine ⟨?_, by simp only [grantL]; omega⟩
        simp only []
        rw [maxL_snoc' _ _ _ hl, h1, if_pos]
        unfold cfE cmpI grantL
        simp only []
        (repeat' split) <;> omega
  have hl : 0 < l.length := List.length_pos_iff.2 hne
  have := key (l.length - 1) (by omega)
  rwa [show l.length - 1 + 1 = l.length by omega, List.take_length] at this
theorem last_run {l : List GRequest} (hok : ∀ x ∈ l, okR x) : lastL (runL l).2 = (runL l).1 := by
  by_cases h : l = []
  · subst h; rfl
  · obtain ⟨h1, h2⟩ := max_run hok h
    unfold lastL
    rw [h1, if_neg (by omega)]
end Go.Proofs.Ytaoicaldhllbfaa
