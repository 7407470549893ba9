/- Merged texts: A, B, C, D, E, F, G, G2, H, I, J, K, L, M, N, P, Q, R. -/
import Derived.Test.YtgdmaadikcnagaaDoorMF
import Derived.Test.YtgdmaadikcnagaaDoorMG1
import Derived.Test.YtgdmaadikcnagaaDoorMG2
namespace Go.Proofs.YtgdmaadikcnagaaDoor
open Go Go.Gx Go.RowKit
set_option linter.unusedVariables false
set_option linter.unusedSimpArgs false

theorem rb {a b : Bool} (h : a = b) : Ending.returned (.bool a) = Ending.returned (.bool b) := by rw [h]
theorem ri {k : IntKind} {a b : Int} (h : a = b) : Ending.returned (.int k a) = Ending.returned (.int k b) := by rw [h]
/-- The first index at which p holds; -1 if there is none. -/
def idxF {α : Type} (p : α → Bool) (l : List α) : Int := match l.findIdx? p with | some i => i | none => -1

theorem idxF_hit {α : Type} {p : α → Bool} {l : List α} {i : Nat} {x : α} {z : Int} (h : ∀ j, j < i → ∀ x, l[j]? = some x → p x = false) (hx : l[i]? = some x) (hp : p x = true) (hz : z = i) : idxF p l = z := by
  have : l.findIdx? p = some i := by
    rw [List.findIdx?_eq_some_iff_getElem]
    obtain ⟨hlt, e⟩ := List.getElem?_eq_some_iff.1 hx
    exact ⟨hlt, by rw [e]; exact hp, fun j hj => by rw [h j hj _ (List.getElem?_eq_getElem (by omega))]; decide⟩
  simp [idxF, this, hz]
theorem idxF_none {α : Type} {p : α → Bool} {l : List α} (h : ∀ x ∈ l, p x = false) : idxF p l = -1 := by
  have : l.findIdx? p = none := by rw [List.findIdx?_eq_none_iff]; exact h
  simp [idxF, this]
theorem idxF_any {α : Type} {p : α → Bool} {l : List α} : decide (0 ≤ idxF p l) = l.any p := by
  cases h : l.findIdx? p with
  | none =>
    have h' := List.findIdx?_eq_none_iff.1 h
    have : l.any p = false := by rw [List.any_eq_false]; intro x hx; simp [h' x hx]
    simp [idxF, h, this]
  | some i =>
    obtain ⟨hlt, hp, _⟩ := List.findIdx?_eq_some_iff_getElem.1 h
    have : l.any p = true := List.any_eq_true.2 ⟨_, List.getElem_mem hlt, hp⟩
    simp [idxF, h, this]


/-- The comparison of two numbers, as -1, 0 or 1. -/
def cmp1 (x y : Int) : Int := if x < y then -1 else if y < x then 1 else 0
def orI (a b : Int) : Int := if a = 0 then b else a
/-- The comparison of two spots by their numbers. -/
def cmpS (sp : List GSpot) (x y : Int) : Int := orI (cmp1 (nth sp x).At (nth sp y).At) (cmp1 (nth sp x).Contract (nth sp y).Contract)
theorem nan_spec {x : Int} {w : World} : CallsV Tryd.prog 55 #[.int .i64 x] w (.bool false) := by
  have S := St.start w
  refine CallsV.mk ?_
  refine calls_enter Tryd.func55 rfl (by intro _ h; first | exact nomatch h.1 | (obtain ⟨_, h, _⟩ := h; exact nomatch h)) Tryd.ntmps55 rfl ?_
  repeat' (first | refine WP_seq ?_ | refine WP_region ?_ | refine wl_nil ?_ | refine then_normal ?_ | refine WP_ret ?_ | (refine g_move ?_; refine st_move rfl ?_) | (refine g_assign ?_; refine st_assign rfl ?_) | (refine g_b_neq ?_; refine st_val rfl (r_neq rfl rfl) ?_))
  all_goals (refine end1 rfl rfl ⟨rb ?_, S.below⟩; simp)
theorem cmp1_spec {x y : Int} {w : World} : CallsV Tryd.prog 39 #[.int .i64 x, .int .i64 y] w (.int .i64 (cmp1 x y)) := by
  have S := St.start w
  refine CallsV.mk ?_
  refine calls_enter Tryd.func39 rfl (by intro _ h; first | exact nomatch h.1 | (obtain ⟨_, h, _⟩ := h; exact nomatch h)) Tryd.ntmps39 rfl ?_
  repeat' (first | refine WP_seq ?_ | refine WP_region ?_ | refine wl_nil ?_ | refine then_normal ?_ | refine then_ret ?_ | refine WP_ret ?_ | refine WP_skip ?_ | refine WP_condF rfl ?_ | (refine g_move ?_; refine st_move rfl ?_) | (refine g_assign ?_; refine st_assign rfl ?_) | (refine g_b_lss ?_; refine st_val rfl (r_lss rfl rfl) ?_) | (refine g_b_gtr ?_; refine st_val rfl (r_gtr rfl rfl) ?_) | (refine g_callV ?_; (refine st_callV rfl (r_call1 rfl rfl) (nan_spec) ?_; intro w hb; replace S := S.grow hb; clear hb)) | (refine WP_cond rfl (fun h => ?_) (fun h => ?_) <;> (fail_if_success (have hh : true = true := h)) <;> (fail_if_success (have hh : false = false := h)) <;> (try simp only [decide_eq_true_eq, decide_eq_false_iff_not, Bool.not_eq_true', Bool.not_eq_false', Int.not_lt, Int.not_le] at h) <;> (try (exfalso; omega))))
  all_goals (refine end1 rfl rfl ⟨ri ?_, S.below⟩; unfold cmp1; (repeat' split) <;> omega)
theorem orI_spec {a b : Int} {v : Value} {w : World} (hr : Rd (fInt .i64).ty w v [a, b]) : CallsV Tryd.prog 62 #[v] w (.int .i64 (orI a b)) := by
  have S := St.start w
  obtain ⟨A, c, rfl⟩ := hr.len
  refine CallsV.mk ?_
  refine calls_enter Tryd.func62 rfl (by intro _ h; first | exact nomatch h.1 | (obtain ⟨_, h, _⟩ := h; exact nomatch h)) Tryd.ntmps62 rfl ?_
  repeat' (first | refine WP_seq ?_ | refine WP_region ?_ | refine wl_nil ?_ | refine then_normal ?_ | refine WP_block ?_ | (refine g_move ?_; refine st_move rfl ?_) | (refine g_assign ?_; refine st_assign rfl ?_) | (refine g_c_len ?_; refine st_val rfl (r_lenSlice rfl) ?_))
  refine WP_loop (fun k σ w1 => ∃ i : Int, Has σ [(3, .int .i64 0), (6, .slice A [a, b].length c), (7, .int .i64 [a, b].length), (8, .int .i64 i)] ∧ St w w1 [] ∧ 0 ≤ i ∧ i ≤ 2 ∧ (∀ j : Int, 0 ≤ j → j < i → nth [a, b] j = 0) ∧ k = 2 - i.toNat) 2 ⟨0, ⟨rfl, rfl, rfl, rfl, trivial⟩, S, by omega, by omega, fun j a b => by omega, by omega⟩ ?_
  clear S
  rintro k σ w1 ⟨i, hs, S, h0, h2, hz, rfl⟩
  refine WP_has hs ?_
  have hl2 : (([a, b] : List Int).length : Int) = 2 := rfl
  repeat' (first | refine WP_seq ?_ | refine WP_region ?_ | refine wl_nil ?_ | refine then_normal ?_ | refine inB_normal ?_ | refine then_exit ?_ | refine inB_here ?_ | refine then_ret ?_ | refine inB_ret ?_ | refine WP_ret ?_ | refine WP_skip ?_ | refine WP_exit ?_ | refine WP_block ?_ | (refine g_move ?_; refine st_move rfl ?_) | (refine g_assign ?_; refine st_assign rfl ?_) | (refine g_b_add ?_; (refine st_val rfl (r_addN rfl rfl ?_ ?_) ?_; (first | omega | (simp <;> omega)); (first | omega | (simp <;> omega)))) | (refine g_b_neq ?_; refine st_val rfl (r_neq rfl rfl) ?_) | (refine g_b_lss ?_; refine st_val rfl (r_lss rfl rfl) ?_) | (refine g_indexAddr ?_; (refine st_val rfl (r_indexAddr (hr.mono S.below) rfl rfl ?_ ?_) ?_; (first | omega | (simp <;> omega)); (first | omega | (simp <;> omega)))) | (refine g_load ?_; (refine st_val rfl (r_loadElem1 (hr.mono S.below) rfl ?_ ?_ rfl) ?_; (first | omega | (simp <;> omega)); (first | omega | (simp <;> omega)))) | (refine WP_cond rfl (fun h => ?_) (fun h => ?_) <;> (fail_if_success (have hh : true = true := h)) <;> (fail_if_success (have hh : false = false := h)) <;> (try simp only [decide_eq_true_eq, decide_eq_false_iff_not, Bool.not_eq_true', Bool.not_eq_false', Int.not_lt, Int.not_le] at h) <;> (try (exfalso; omega))))
  · refine end1 rfl rfl ⟨ri ?_, S.below⟩
    have hn : ¬ nth [a, b] i = 0 := by simpa using h
    rcases (show i = 0 ∨ i = 1 by omega) with rfl | rfl
    · show a = orI a b
      unfold orI; rw [if_neg (show ¬ a = 0 from hn)]
    · have e : a = 0 := hz 0 (by omega) (by omega)
      show b = orI a b
      unfold orI; rw [if_pos e]
  · have hn : nth [a, b] i = 0 := by simpa using h
    refine ⟨⟨_, ?_, i + 1, ⟨rfl, rfl, rfl, rfl, trivial⟩, S, by omega, by omega, fun j p q => ?_, rfl⟩⟩
    · omega
    · rcases (show j = i ∨ j < i by omega) with rfl | hj
      · exact hn
      · exact hz j p hj
  · refine end1 rfl rfl ⟨ri ?_, S.below⟩
    have e1 : a = 0 := hz 0 (by omega) (by omega)
    have e2 : b = 0 := hz 1 (by omega) (by omega)
    unfold orI; rw [if_pos e1]; exact e2.symm
theorem cmp_spec {sp : List GSpot} {sv : Value} {b : Nat} {x y : Int} {w0 : World} (hc : CellsAt w0 ⟨b, 0, none⟩ [sv]) (hr : Rd fGSpot.ty w0 sv sp) (hx : 0 ≤ x ∧ x < sp.length) (hy : 0 ≤ y ∧ y < sp.length) :
    CallsV Tryd.prog 61 #[.int .i64 x, .int .i64 y, .pointer (some ⟨b, 0, none⟩)] w0 (.int .i64 (cmpS sp x y)) := by
  have S := St.start w0
  obtain ⟨A, c, rfl⟩ := hr.len
  refine CallsV.mk ?_
  refine calls_enter Tryd.func61 rfl (by intro _ h; first | exact nomatch h.1 | (obtain ⟨_, h, _⟩ := h; exact nomatch h)) Tryd.ntmps61 rfl ?_
  repeat' (first | refine WP_seq ?_ | refine WP_region ?_ | refine wl_nil ?_ | refine then_normal ?_ | refine WP_drawTail 22 (by kernel_rfl) (by decide +kernel) ?_ | (refine ql_nil ?_; intro w hb; replace S := S.grow hb; clear hb) | (refine g_assign ?_; refine st_assign rfl ?_) | (refine gq_move ?_; refine q_move rfl ?_) | (refine gq_fieldAddr ?_; refine q_val rfl (fun w' hb => r_fieldAddr rfl) ?_) | (refine gq_indexAddr ?_; (refine q_val rfl (fun w' hb => r_indexAddr (hr.mono (S.grow hb).below) rfl rfl ?_ ?_) ?_; (first | omega | (simp <;> omega)); (first | omega | (simp <;> omega)))) | (refine gq_load ?_; first | refine q_val rfl (fun w' hb => r_loadAt (hc.mono (S.grow hb).below) rfl rfl) ?_ | (refine q_val rfl (fun w' hb => r_loadElem1 (hr.mono (S.grow hb).below) rfl ?_ ?_ rfl) ?_; (first | omega | (simp <;> omega)); (first | omega | (simp <;> omega))) | (refine q_val rfl (fun w' hb => r_loadElemF (hr.mono (S.grow hb).below) rfl ?_ ?_ rfl) ?_; (first | omega | (simp <;> omega)); (first | omega | (simp <;> omega)))) | (refine gq_callV ?_; refine q_callV rfl (fun w' hb => r_call2 rfl rfl rfl) (fun w' hb => cmp1_spec) ?_))
  refine st_valE rfl (r_litF (D := fInt .i64) [cmp1 (nth sp x).At (nth sp y).At, cmp1 (nth sp x).Contract (nth sp y).Contract] (fun x => .int .i64 x) S rfl rfl (fun _ => rfl) rfl (by decide) (by decide)) ?_
  rintro _ w ⟨bl, rfl, -, -, S'⟩
  replace S := S'; clear S'
  repeat' (first | refine wl_nil ?_ | refine then_normal ?_ | refine WP_ret ?_ | (refine g_assign ?_; refine st_assign rfl ?_) | (refine g_callV ?_; (refine st_callV rfl (r_call1 rfl rfl) ((orI_spec (S.rdRow (i := 0) rfl))) ?_; intro w hb; replace S := S.grow hb; clear hb)))
  exact end1 rfl rfl ⟨rfl, S.below⟩
end Go.Proofs.YtgdmaadikcnagaaDoor
namespace Go.Proofs.YtgdmaadikcnagaaDoor
open Go Go.Gx Go.RowKit
set_option linter.unusedVariables false
set_option linter.unusedSimpArgs false

/-! Stable sorting of numbers by a comparison, ties in the order of the numbers. -/
structure SW (c : Int → Int → Bool) : Prop where
  irrefl : ∀ x, c x x = false
  trans : ∀ x y z, c x y = true → c y z = true → c x z = true
  ntrans : ∀ x y z, c x y = false → c y z = false → c x z = false
def RS (c : Int → Int → Bool) (x y : Int) : Prop := c x y = true ∨ (c y x = false ∧ x < y)
theorem RS.trans {c : Int → Int → Bool} (h : SW c) {x y z : Int} (h1 : RS c x y) (h2 : RS c y z) : RS c x z := by
  rcases h1 with h1 | ⟨h1, l1⟩ <;> rcases h2 with h2 | ⟨h2, l2⟩
  · exact .inl (h.trans _ _ _ h1 h2)
  · left
    cases e : c x z with
    | true => rfl
    | false => have := h.ntrans _ _ _ e h2; rw [h1] at this; cases this
  · left
    cases e : c x z with
    | true => rfl
    | false => have := h.ntrans _ _ _ h1 e; rw [h2] at this; cases this
  · exact .inr ⟨h.ntrans _ _ _ h2 h1, by omega⟩
theorem pw_last {c : Int → Int → Bool} {l : List Int} {x z : Int} (h : (l ++ [z]).Pairwise (RS c)) (hx : x ∈ l ++ [z]) : x = z ∨ RS c x z := by
  rcases List.mem_append.1 hx with hx | hx
  · exact .inr ((List.pairwise_append.1 h).2.2 x hx z (List.mem_singleton.2 rfl))
  · exact .inl (List.mem_singleton.1 hx)
theorem pw_head {c : Int → Int → Bool} {l : List Int} {x z : Int} (h : (z :: l).Pairwise (RS c)) (hx : x ∈ z :: l) : x = z ∨ RS c z x := by
  rcases List.mem_cons.1 hx with hx | hx
  · exact .inl hx
  · exact .inr ((List.pairwise_cons.1 h).1 x hx)
theorem rs_chain {c : Int → Int → Bool} (h : SW c) {x a b y : Int} (h1 : x = a ∨ RS c x a) (h2 : RS c a b) (h3 : y = b ∨ RS c b y) : RS c x y := by
  have k : RS c x b := by
    rcases h1 with h1 | h1
    · rw [h1]; exact h2
    · exact h1.trans h h2
  rcases h3 with h3 | h3
  · rw [h3]; exact k
  · exact k.trans h h3
/-- Where two runs are cut so that the parts fit, all of the first parts come ahead of all of the second ones. -/
theorem cut_fits {c : Int → Int → Bool} (h : SW c) {L1 L2 M1 M2 : List Int} (hL : (L1 ++ L2).Pairwise (RS c)) (hM : (M1 ++ M2).Pairwise (RS c)) (hlt : ∀ x ∈ L1 ++ L2, ∀ y ∈ M1 ++ M2, x < y)
    (h1 : ∀ A x y B, L1 = A ++ [x] → M2 = y :: B → c y x = false) (h2 : ∀ A x y B, M1 = A ++ [x] → L2 = y :: B → c x y = true) : ∀ x ∈ L1 ++ M1, ∀ y ∈ L2 ++ M2, RS c x y := by
  have pL := List.pairwise_append.1 hL
  have pM := List.pairwise_append.1 hM
  intro x hx y hy
  rcases List.mem_append.1 hx with hx | hx <;> rcases List.mem_append.1 hy with hy | hy
  · exact pL.2.2 x hx y hy
  · obtain ⟨A, a, rfl⟩ : ∃ A a, L1 = A ++ [a] := ⟨L1.dropLast, L1.getLast (List.ne_nil_of_mem hx), (List.dropLast_concat_getLast _).symm⟩
    cases M2 with
    | nil => cases hy
    | cons b B =>
      have ha : a ∈ (A ++ [a]) ++ L2 := List.mem_append.2 (.inl (List.mem_append.2 (.inr (List.mem_singleton.2 rfl))))
      have hb : b ∈ M1 ++ b :: B := List.mem_append.2 (.inr (List.mem_cons_self ..))
      exact rs_chain h (pw_last pL.1 hx) (.inr ⟨h1 A a b B rfl rfl, hlt a ha b hb⟩) (pw_head pM.2.1 hy)
  · obtain ⟨A, a, rfl⟩ : ∃ A a, M1 = A ++ [a] := ⟨M1.dropLast, M1.getLast (List.ne_nil_of_mem hx), (List.dropLast_concat_getLast _).symm⟩
    cases L2 with
    | nil => cases hy
    | cons b B => exact rs_chain h (pw_last pM.1 hx) (.inl (h2 A a b B rfl rfl)) (pw_head pL.2.1 hy)
  · exact pM.2.2 x hx y hy
theorem merge_fits {c : Int → Int → Bool} (h : SW c) {L1 L2 M1 M2 X Y : List Int} (hL : (L1 ++ L2).Pairwise (RS c)) (hM : (M1 ++ M2).Pairwise (RS c)) (hlt : ∀ x ∈ L1 ++ L2, ∀ y ∈ M1 ++ M2, x < y)
    (h1 : ∀ A x y B, L1 = A ++ [x] → M2 = y :: B → c y x = false) (h2 : ∀ A x y B, M1 = A ++ [x] → L2 = y :: B → c x y = true) (hX : X.Perm (L1 ++ M1)) (hY : Y.Perm (L2 ++ M2)) (pX : X.Pairwise (RS c)) (pY : Y.Pairwise (RS c)) :
    (X ++ Y).Perm ((L1 ++ L2) ++ (M1 ++ M2)) ∧ (X ++ Y).Pairwise (RS c) := by
  refine ⟨(hX.append hY).trans ?_, List.pairwise_append.2 ⟨pX, pY, fun x hx y hy => cut_fits h hL hM hlt h1 h2 x (hX.mem_iff.1 hx) y (hY.mem_iff.1 hy)⟩⟩
  rw [List.append_assoc, List.append_assoc]
  refine List.Perm.append_left _ ?_
  rw [← List.append_assoc, ← List.append_assoc]
  exact List.Perm.append_right _ List.perm_append_comm
/-- A number is put into a run. -/
theorem put_fits {c : Int → Int → Bool} (h : SW c) {A B : List Int} {x : Int} (hp : (A ++ B).Pairwise (RS c)) (hlt : ∀ y ∈ A ++ B, y < x) (h1 : ∀ A' y, A = A' ++ [y] → c x y = false) (h2 : ∀ b ∈ B, c x b = true) : (A ++ x :: B).Pairwise (RS c) := by
  have p := List.pairwise_append.1 hp
  refine List.pairwise_append.2 ⟨p.1, List.pairwise_cons.2 ⟨fun b hb => .inl (h2 b hb), p.2.1⟩, fun a ha y hy => ?_⟩
  rcases List.mem_cons.1 hy with hy | hy
  · subst hy
    obtain ⟨A', z, rfl⟩ : ∃ A' z, A = A' ++ [z] := ⟨A.dropLast, A.getLast (List.ne_nil_of_mem ha), (List.dropLast_concat_getLast _).symm⟩
    have hz : z < y := hlt z (List.mem_append.2 (.inl (List.mem_append.2 (.inr (List.mem_singleton.2 rfl)))))
    exact rs_chain h (pw_last p.1 ha) (.inr ⟨h1 A' z rfl, hz⟩) (.inl rfl)
  · exact p.2.2 a ha y hy
/-- The sorted order is one alone. -/
theorem rs_asymm {c : Int → Int → Bool} (h : SW c) {x y : Int} (h1 : RS c x y) (h2 : RS c y x) : False := by
  have k := h1.trans h h2
  rcases k with k | ⟨_, k⟩
  · rw [h.irrefl] at k; cases k
  · omega
theorem rs_uniq {c : Int → Int → Bool} (h : SW c) : ∀ {l1 l2 : List Int}, l1.Perm l2 → l1.Pairwise (RS c) → l2.Pairwise (RS c) → l1 = l2
  | [], l2, hp, _, _ => (List.nil_perm.1 hp).symm
  | a :: r1, [], hp, _, _ => absurd hp.length_eq (by simp)
  | a :: r1, b :: r2, hp, h1, h2 => by
    have ha : a ∈ b :: r2 := hp.mem_iff.1 (List.mem_cons_self ..)
    have hb : b ∈ a :: r1 := hp.mem_iff.2 (List.mem_cons_self ..)
    rw [List.pairwise_cons] at h1 h2
    have e : a = b := by
      rcases List.mem_cons.1 hb with hb | hb
      · exact hb.symm
      · rcases List.mem_cons.1 ha with ha | ha
        · exact ha
        · exact (rs_asymm h (h1.1 b hb) (h2.1 a ha)).elim
    subst e
    rw [rs_uniq h (List.Perm.cons_inv hp) h1.2 h2.2]
/-! Exchanges and rotations, by places. -/
def swapF {α : Type} (f : Nat → α) (a b n : Nat) (k : Nat) : α := if a ≤ k ∧ k < a + n then f (k - a + b) else if b ≤ k ∧ k < b + n then f (k - b + a) else f k
def rotF {α : Type} (f : Nat → α) (a m b : Nat) (k : Nat) : α := if a ≤ k ∧ k < a + (b - m) then f (k - a + m) else if a + (b - m) ≤ k ∧ k < b then f (k - (b - m)) else f k
theorem swapF_zero {α : Type} (f : Nat → α) (a b : Nat) : swapF f a b 0 = f := by
  funext k; unfold swapF; rw [if_neg (by omega), if_neg (by omega)]
theorem swapF_succ {α : Type} (f : Nat → α) {a b i : Nat} (h : a + (i + 1) ≤ b) (k : Nat) : swapF f a b (i + 1) k = if k = a + i then swapF f a b i (b + i) else if k = b + i then swapF f a b i (a + i) else swapF f a b i k := by
  unfold swapF
  by_cases h1 : k = a + i
  · subst h1; rw [if_pos (by omega), if_pos rfl, if_neg (by omega), if_neg (by omega)]; congr 1; omega
  · rw [if_neg h1]
    by_cases h2 : k = b + i
    · subst h2; rw [if_neg (by omega), if_pos (by omega), if_pos rfl, if_neg (by omega), if_neg (by omega)]; congr 1; omega
    · rw [if_neg h2]
      by_cases h3 : a ≤ k ∧ k < a + i
      · rw [if_pos (by omega), if_pos h3]
      · rw [if_neg (by omega), if_neg h3]
        by_cases h4 : b ≤ k ∧ k < b + i
        · rw [if_pos (by omega), if_pos h4]
        · rw [if_neg (by omega), if_neg h4]
theorem rot_more {α : Type} (f : Nat → α) {m i j : Nat} (hi : i ≤ m) (h : j < i) : rotF (swapF f (m - i) m j) (m - i + j) m (m + j) = rotF f (m - i) m (m + j) := by
  funext k
  unfold rotF swapF
  (repeat' split) <;> first | rfl | (congr 1; omega) | (exfalso; omega)
theorem rot_less {α : Type} (f : Nat → α) {m i j : Nat} (hi : i ≤ m) (h : i < j) : rotF (swapF f (m - i) (m + j - i) i) (m - i) m (m + (j - i)) = rotF f (m - i) m (m + j) := by
  funext k
  unfold rotF swapF
  (repeat' split) <;> first | rfl | (congr 1; omega) | (exfalso; omega)
theorem rot_even {α : Type} (f : Nat → α) {m i : Nat} (hi : i ≤ m) : swapF f (m - i) m i = rotF f (m - i) m (m + i) := by
  funext k
  unfold rotF swapF
  (repeat' split) <;> first | rfl | (congr 1; omega) | (exfalso; omega)

/-- A list told by its places. -/
def tab (f : Nat → Int) (N : Nat) : List Int := (List.range N).map f
theorem tab_len {f : Nat → Int} {N : Nat} : (tab f N).length = N := by simp [tab]
theorem tab_nth {f : Nat → Int} {N i : Nat} {j : Int} (h : i < N) (hj : j = i) : nth (tab f N) j = f i := by
  subst hj; unfold nth tab; simp [h]
theorem tab_ext {f g : Nat → Int} {N : Nat} (h : ∀ k, k < N → f k = g k) : tab f N = tab g N := by
  unfold tab; exact List.map_congr_left fun k hk => h k (List.mem_range.1 hk)
theorem tab_set {f : Nat → Int} {N i : Nat} {x : Int} (h : i < N) : (tab f N).set i x = tab (fun k => if k = i then x else f k) N := by
  apply List.ext_getElem?
  intro k
  unfold tab
  rw [List.getElem?_set]
  by_cases hk : k < N
  · by_cases e : i = k
    · subst e; simp [h]
    · rw [if_neg e]; simp [hk, Ne.symm e]
  · split
    · omega
    · rw [List.getElem?_eq_none (by simp; omega), List.getElem?_eq_none (by simp; omega)]
theorem tab_put {f : Nat → Int} {N i : Nat} {j x : Int} (h : i < N) (hj : j = i) : (tab f N).set j.toNat x = tab (fun k => if k = i then x else f k) N := by
  subst hj; exact tab_set h
abbrev rowT (v : Value) (f : Nat → Int) (N : Nat) : Ob := rowOb (fInt .i64) 3 v (tab f N)
theorem rowT_ext {v : Value} {f g : Nat → Int} {N : Nat} (h : ∀ k, k < N → f k = g k) : rowT v f N = rowT v g N := by
  unfold rowT; rw [tab_ext h]
theorem swapR_run {v cv : Value} {f : Nat → Int} {N a b n : Nat} {ex : List Ob} {w0 w : World} (S : St w0 w (rowT v f N :: ex)) (hab : a + n ≤ b) (hb : b + n ≤ N) (hN : N ≤ 1000000000) :
    CallsW Tryd.prog 110 #[v, .int .i64 (a : Int), .int .i64 (b : Int), .int .i64 (n : Int), cv] w (fun _ w' => St w0 w' (rowT v (swapF f a b n) N :: ex)) := by
  refine CallsW.mk ?_
  refine calls_enter Tryd.func110 rfl (by intro _ h; first | exact nomatch h.1 | (obtain ⟨_, h, _⟩ := h; exact nomatch h)) Tryd.ntmps110 rfl ?_
  repeat' (first | refine WP_seq ?_ | refine WP_region ?_ | refine wl_nil ?_ | refine then_normal ?_ | refine WP_block ?_ | (refine g_assign ?_; refine st_assign rfl ?_))
  refine WP_loop (fun k σ w1 => ∃ i : Nat, Has σ [(0, v), (1, .int .i64 (a : Int)), (2, .int .i64 (b : Int)), (3, .int .i64 (n : Int)), (10, .int .i64 (i : Int))] ∧ St w0 w1 (rowT v (swapF f a b i) N :: ex) ∧ i ≤ n ∧ k = n - i) n ⟨0, ⟨rfl, rfl, rfl, rfl, rfl, trivial⟩, by rw [swapF_zero]; exact S, by omega, rfl⟩ ?_
  clear S
  rintro k σ w1 ⟨i, hs, S, hi, rfl⟩
  refine WP_has hs ?_
  have hl := @tab_len (swapF f a b i) N
  by_cases hin : i < n
  · repeat' (first | refine WP_seq ?_ | refine WP_region ?_ | refine wl_nil ?_ | refine then_normal ?_ | refine WP_skip ?_ | refine WP_block ?_ | (refine Pm.WP_drawPerm [0,1,2,3,8,9,10,11,12,13,14,15,16,17,18,19] [4,5,6,7] [20,21,22,23] (by kernel_rfl) (by decide +kernel) (by decide +kernel) ?_; intro w hb; replace S := S.grow hb; clear hb) | (refine ql_nil ?_; intro w hb; replace S := S.grow hb; clear hb) | (refine g_move ?_; refine st_move rfl ?_) | (refine g_b_lss ?_; refine st_val rfl (r_lss rfl rfl) ?_) | (refine g_indexAddr ?_; (refine st_val rfl (r_indexAddr (S.rdRow (D := (fInt .i64)) (i := 0) rfl) rfl rfl ?_ ?_) ?_; (first | omega | (simp <;> omega)); (first | omega | (simp <;> omega)))) | (refine gq_move ?_; refine q_move rfl ?_) | (refine gq_b_add ?_; (refine q_val rfl (fun w' hb => r_addN rfl rfl ?_ ?_) ?_; (first | omega | (simp <;> omega)); (first | omega | (simp <;> omega)))) | (refine gq_indexAddr ?_; (refine q_val rfl (fun w' hb => r_indexAddr ((S.grow hb).rdRow (D := (fInt .i64)) (i := 0) rfl) rfl rfl ?_ ?_) ?_; (first | omega | (simp <;> omega)); (first | omega | (simp <;> omega)))) | (refine gq_load ?_; (refine q_val rfl (fun w' hb => r_loadElem1 ((S.grow hb).rdRow (D := (fInt .i64)) (i := 0) rfl) rfl ?_ ?_ rfl) ?_; (first | omega | (simp <;> omega)); (first | omega | (simp <;> omega)))) | (refine Pm.qp_nil ?_; intro w hb; replace S := S.grow hb; clear hb) | (refine Pm.qp_val rfl (fun w' => r_addN rfl rfl ?_ ?_) ?_; omega; omega) | (refine Pm.qp_val rfl (fun w' => ⟨rfl⟩) ?_) | (refine WP_cond rfl (fun h => ?_) (fun h => ?_) <;> (fail_if_success (have hh : true = true := h)) <;> (fail_if_success (have hh : false = false := h)) <;> (try simp only [decide_eq_true_eq, decide_eq_false_iff_not, Bool.not_eq_true', Bool.not_eq_false', Int.not_lt, Int.not_le] at h) <;> (try (exfalso; omega))))
    refine st_skipE rfl (r_storeElem (i := 0) (D := fInt .i64) S rfl rfl rfl rfl (fun c hc => by cases List.mem_singleton.1 hc; rfl) (by omega) (by omega)) ?_
    intro w S'
    replace S : St w0 w (rowT v (fun k => if k = a + i then swapF f a b i (b + i) else swapF f a b i k) N :: ex) := by
      rw [tab_put (i := a + i) (by omega) (by omega), tab_nth (i := b + i) (by omega) (by omega)] at S'; exact S'
    clear S'
    have hl := @tab_len (fun k => if k = a + i then swapF f a b i (b + i) else swapF f a b i k) N
    repeat' ((refine g_indexAddr ?_; (refine st_val rfl (r_indexAddr (S.rdRow (D := (fInt .i64)) (i := 0) rfl) rfl rfl ?_ ?_) ?_; (first | omega | (simp <;> omega)); (first | omega | (simp <;> omega)))))
    refine st_skipE rfl (r_storeElem (i := 0) (D := fInt .i64) S rfl rfl rfl rfl (fun c hc => by cases List.mem_singleton.1 hc; rfl) (by omega) (by omega)) ?_
    intro w S'
    replace S : St w0 w (rowT v (swapF f a b (i + 1)) N :: ex) := by
      rw [tab_put (i := b + i) (by omega) (by omega), tab_nth (i := a + i) (by omega) (by omega)] at S'
      refine S'.eqos (congrArg (· :: ex) (rowT_ext fun k hk => ?_))
      rw [swapF_succ f (by omega)]
      (repeat' split) <;> first | rfl | omega
    clear S'
    repeat' (first | refine WP_region ?_ | refine wl_nil ?_ | refine then_normal ?_ | refine inB_normal ?_ | (refine g_move ?_; refine st_move rfl ?_) | (refine g_assign ?_; refine st_assign rfl ?_) | (refine g_b_add ?_; (refine st_val rfl (r_addN rfl rfl ?_ ?_) ?_; (first | omega | (simp <;> omega)); (first | omega | (simp <;> omega)))))
    refine ⟨⟨_, ?_, i + 1, ⟨rfl, rfl, rfl, rfl, ?_, trivial⟩, S, by omega, rfl⟩⟩
    · omega
    · show Value.int .i64 ((i : Int) + 1) = _
      rw [show ((i + 1 : Nat) : Int) = (i : Int) + 1 by omega]
  · repeat' (first | refine WP_seq ?_ | refine WP_region ?_ | refine wl_nil ?_ | refine then_normal ?_ | (refine g_move ?_; refine st_move rfl ?_) | (refine g_b_lss ?_; refine st_val rfl (r_lss rfl rfl) ?_))
    refine WP_cond rfl (fun h => absurd (of_decide_eq_true h) (by omega)) (fun h => ?_)
    refine WP_exit ?_
    refine then_exit ?_
    refine then_exit ?_
    refine inB_here ?_
    have e : i = n := by omega
    subst e
    exact end0 rfl ⟨_, rfl, S⟩
end Go.Proofs.YtgdmaadikcnagaaDoor
namespace Go.Proofs.YtgdmaadikcnagaaDoor
open Go Go.Gx Go.RowKit
set_option linter.unusedVariables false
set_option linter.unusedSimpArgs false

theorem swapR_at {v cv : Value} {f : Nat → Int} {N a b n : Nat} {x y z : Int} {ex : List Ob} {w0 w : World} (S : St w0 w (rowT v f N :: ex)) (hx : x = a) (hy : y = b) (hz : z = n) (hab : a + n ≤ b) (hb : b + n ≤ N) (hN : N ≤ 1000000000) :
    CallsW Tryd.prog 110 #[v, .int .i64 x, .int .i64 y, .int .i64 z, cv] w (fun _ w' => St w0 w' (rowT v (swapF f a b n) N :: ex)) := by
  subst hx hy hz; exact swapR_run S hab hb hN
theorem rot_run {v cv : Value} {f : Nat → Int} {N a m b : Nat} {x y z : Int} {ex : List Ob} {w0 w : World} (S : St w0 w (rowT v f N :: ex)) (hx : x = a) (hy : y = m) (hz : z = b) (ham : a < m) (hmb : m < b) (hb : b ≤ N) (hN : N ≤ 1000000000) :
    CallsW Tryd.prog 108 #[v, .int .i64 x, .int .i64 y, .int .i64 z, cv] w (fun _ w' => St w0 w' (rowT v (rotF f a m b) N :: ex)) := by
  subst hx hy hz
  refine CallsW.mk ?_
  refine calls_enter Tryd.func108 rfl (by intro _ h; first | exact nomatch h.1 | (obtain ⟨_, h, _⟩ := h; exact nomatch h)) Tryd.ntmps108 rfl ?_
  repeat' (first | refine WP_seq ?_ | refine WP_region ?_ | refine wl_nil ?_ | refine then_normal ?_ | refine WP_block ?_ | (refine g_move ?_; refine st_move rfl ?_) | (refine g_assign ?_; refine st_assign rfl ?_) | (refine g_b_sub ?_; (refine st_val rfl (r_subN rfl rfl ?_ ?_) ?_; (first | omega | (simp <;> omega)); (first | omega | (simp <;> omega)))))
  refine WP_loop (fun k σ w1 => ∃ (i j : Nat) (p q : Int) (g : Nat → Int), Has σ [(0, v), (2, .int .i64 (m : Int)), (4, cv), (10, .int .i64 p), (11, .int .i64 q)] ∧ St w0 w1 (rowT v g N :: ex) ∧ p = i ∧ q = j ∧ 1 ≤ i ∧ 1 ≤ j ∧ i ≤ m ∧ m + j ≤ N ∧ rotF g (m - i) m (m + j) = rotF f a m b ∧ k = i + j) (b - a) ⟨m - a, b - m, _, _, f, ⟨rfl, rfl, rfl, rfl, rfl, trivial⟩, S, by omega, by omega, by omega, by omega, by omega, by omega, by congr 1 <;> omega, by omega⟩ ?_
  clear S
  rintro k σ w1 ⟨i, j, p, q, g, hs, S, hp, hq, hi, hj, him, hjN, hr, rfl⟩
  refine WP_has hs ?_
  by_cases hij : i = j
  · repeat' (first | refine WP_seq ?_ | refine WP_region ?_ | refine wl_nil ?_ | refine then_normal ?_ | (refine g_move ?_; refine st_move rfl ?_) | (refine g_b_neq ?_; refine st_val rfl (r_neq rfl rfl) ?_))
    refine WP_cond rfl (fun h => absurd hij (by simp at h; omega)) (fun h => ?_)
    refine WP_exit ?_
    refine then_exit ?_
    refine then_exit ?_
    refine inB_here ?_
    repeat' (first | refine WP_region ?_ | refine then_normal ?_ | (refine g_move ?_; refine st_move rfl ?_) | (refine g_b_sub ?_; (refine st_val rfl (r_subN rfl rfl ?_ ?_) ?_; (first | omega | (simp <;> omega)); (first | omega | (simp <;> omega)))))
    refine st_callW rfl (r_call5 rfl rfl rfl rfl rfl rfl) (swapR_at (a := m - i) (b := m) (n := i) S (by omega) (by omega) (by omega) (by omega) (by omega) hN) ?_
    rintro u w S'
    replace S := S'; clear S'
    refine wl_nil ?_
    subst hij
    refine end0 rfl ⟨_, rfl, ?_⟩
    rw [← hr, ← rot_even g him]; exact S
  · by_cases hlt : j < i
    · repeat' (first | refine WP_seq ?_ | refine WP_region ?_ | refine wl_nil ?_ | refine then_normal ?_ | refine WP_skip ?_ | refine WP_block ?_ | (refine g_move ?_; refine st_move rfl ?_) | (refine g_b_sub ?_; (refine st_val rfl (r_subN rfl rfl ?_ ?_) ?_; (first | omega | (simp <;> omega)); (first | omega | (simp <;> omega)))) | (refine g_b_neq ?_; refine st_val rfl (r_neq rfl rfl) ?_) | (refine g_b_gtr ?_; refine st_val rfl (r_gtr rfl rfl) ?_) | (refine WP_cond rfl (fun h => ?_) (fun h => ?_) <;> (fail_if_success (have hh : true = true := h)) <;> (fail_if_success (have hh : false = false := h)) <;> (try simp only [decide_eq_true_eq, decide_eq_false_iff_not, Bool.not_eq_true', Bool.not_eq_false', Int.not_lt, Int.not_le] at h) <;> (try (exfalso; omega))))
      refine st_callW rfl (r_call5 rfl rfl rfl rfl rfl rfl) (swapR_at (a := m - i) (b := m) (n := j) S (by omega) (by omega) (by omega) (by omega) (by omega) hN) ?_
      rintro u w S'
      replace S := S'; clear S'
      repeat' (first | refine WP_region ?_ | refine wl_nil ?_ | refine then_normal ?_ | refine inB_normal ?_ | (refine g_move ?_; refine st_move rfl ?_) | (refine g_assign ?_; refine st_assign rfl ?_) | (refine g_b_sub ?_; (refine st_val rfl (r_subN rfl rfl ?_ ?_) ?_; (first | omega | (simp <;> omega)); (first | omega | (simp <;> omega)))))
      refine ⟨⟨_, ?_, i - j, j, _, _, _, ⟨rfl, rfl, rfl, rfl, rfl, trivial⟩, S, by omega, by omega, by omega, by omega, by omega, by omega, ?_, rfl⟩⟩
      · omega
      · rw [← hr, ← rot_more g him hlt]; congr 1; omega
    · repeat' (first | refine WP_seq ?_ | refine WP_region ?_ | refine wl_nil ?_ | refine then_normal ?_ | refine WP_skip ?_ | refine WP_block ?_ | (refine g_move ?_; refine st_move rfl ?_) | (refine g_b_add ?_; (refine st_val rfl (r_addN rfl rfl ?_ ?_) ?_; (first | omega | (simp <;> omega)); (first | omega | (simp <;> omega)))) | (refine g_b_sub ?_; (refine st_val rfl (r_subN rfl rfl ?_ ?_) ?_; (first | omega | (simp <;> omega)); (first | omega | (simp <;> omega)))) | (refine g_b_neq ?_; refine st_val rfl (r_neq rfl rfl) ?_) | (refine g_b_gtr ?_; refine st_val rfl (r_gtr rfl rfl) ?_) | (refine WP_cond rfl (fun h => ?_) (fun h => ?_) <;> (fail_if_success (have hh : true = true := h)) <;> (fail_if_success (have hh : false = false := h)) <;> (try simp only [decide_eq_true_eq, decide_eq_false_iff_not, Bool.not_eq_true', Bool.not_eq_false', Int.not_lt, Int.not_le] at h) <;> (try (exfalso; omega))))
      refine st_callW rfl (r_call5 rfl rfl rfl rfl rfl rfl) (swapR_at (a := m - i) (b := m + j - i) (n := i) S (by omega) (by omega) (by omega) (by omega) (by omega) hN) ?_
      rintro u w S'
      replace S := S'; clear S'
      repeat' (first | refine WP_region ?_ | refine wl_nil ?_ | refine then_normal ?_ | refine inB_normal ?_ | (refine g_move ?_; refine st_move rfl ?_) | (refine g_assign ?_; refine st_assign rfl ?_) | (refine g_b_sub ?_; (refine st_val rfl (r_subN rfl rfl ?_ ?_) ?_; (first | omega | (simp <;> omega)); (first | omega | (simp <;> omega)))))
      refine ⟨⟨_, ?_, i, j - i, _, _, _, ⟨rfl, rfl, rfl, rfl, rfl, trivial⟩, S, by omega, by omega, by omega, by omega, by omega, by omega, ?_, rfl⟩⟩
      · omega
      · rw [← hr, ← rot_less g him (by omega)]
end Go.Proofs.YtgdmaadikcnagaaDoor
namespace Go.Proofs.YtgdmaadikcnagaaDoor
open Go Go.Gx Go.RowKit
set_option linter.unusedVariables false
set_option linter.unusedSimpArgs false

/-- The places from a up to b, without b. -/
def seg (f : Nat → Int) (a b : Nat) : List Int := (List.range' a (b - a)).map f
theorem seg_nil {f : Nat → Int} {a b : Nat} (h : b ≤ a) : seg f a b = [] := by
  unfold seg; rw [show b - a = 0 by omega]; rfl
theorem seg_append {f : Nat → Int} {a m b : Nat} (h1 : a ≤ m) (h2 : m ≤ b) : seg f a b = seg f a m ++ seg f m b := by
  unfold seg
  rw [← List.map_append, show b - a = (m - a) + (b - m) by omega, ← List.range'_append_1, show a + (m - a) = m by omega]
theorem seg_one {f : Nat → Int} {a : Nat} : seg f a (a + 1) = [f a] := by
  unfold seg; rw [show a + 1 - a = 1 by omega]; rfl
theorem seg_snoc {f : Nat → Int} {a b : Nat} (h : a ≤ b) : seg f a (b + 1) = seg f a b ++ [f b] := by
  rw [seg_append h (by omega : b ≤ b + 1), seg_one]
theorem seg_cons {f : Nat → Int} {a b : Nat} (h : a < b) : seg f a b = f a :: seg f (a + 1) b := by
  rw [seg_append (by omega : a ≤ a + 1) (by omega), seg_one]; rfl
theorem seg_congr {f g : Nat → Int} {a b : Nat} (h : ∀ k, a ≤ k → k < b → f k = g k) : seg f a b = seg g a b := by
  unfold seg
  exact List.map_congr_left fun k hk => by
    rw [List.mem_range'_1] at hk; exact h k (by omega) (by omega)
theorem seg_shift {f g : Nat → Int} {a b c d : Nat} (hl : b - a = d - c) (h : ∀ k, k < b - a → f (a + k) = g (c + k)) : seg f a b = seg g c d := by
  unfold seg
  rw [← hl, List.range'_eq_map_range, List.range'_eq_map_range, List.map_map, List.map_map]
  exact List.map_congr_left fun k hk => h k (List.mem_range.1 hk)
theorem mem_seg {f : Nat → Int} {a b : Nat} {x : Int} : x ∈ seg f a b ↔ ∃ k, a ≤ k ∧ k < b ∧ x = f k := by
  unfold seg
  rw [List.mem_map]
  constructor
  · rintro ⟨k, hk, rfl⟩; rw [List.mem_range'_1] at hk; exact ⟨k, by omega, by omega, rfl⟩
  · rintro ⟨k, h1, h2, rfl⟩; exact ⟨k, by rw [List.mem_range'_1]; omega, rfl⟩
theorem seg_len {f : Nat → Int} {a b : Nat} : (seg f a b).length = b - a := by simp [seg]
theorem seg_tab {f : Nat → Int} {N : Nat} : seg f 0 N = tab f N := by
  unfold seg tab; rw [Nat.sub_zero, List.range_eq_range']
/-- A part that has been sorted; the rest is as it was. -/
structure Srt (c : Int → Int → Bool) (f g : Nat → Int) (a b : Nat) : Prop where
  out : ∀ k, (k < a ∨ b ≤ k) → g k = f k
  perm : (seg g a b).Perm (seg f a b)
  pw : (seg g a b).Pairwise (RS c)
/-- A place filled from behind. -/
def insF (g : Nat → Int) (j i : Nat) (k : Nat) : Int := if k = j then g i else if j < k ∧ k ≤ i then g (k - 1) else g k
theorem insF_start (g : Nat → Int) (i : Nat) : insF g i i = g := by
  funext k; unfold insF
  split
  · rename_i h; rw [h]
  · rw [if_neg (by omega)]
theorem insF_seg {g : Nat → Int} {a j i : Nat} (h1 : a ≤ j) (h2 : j ≤ i) : seg (insF g j i) a (i + 1) = seg g a j ++ g i :: seg g j i := by
  rw [seg_append h1 (by omega : j ≤ i + 1), seg_cons (f := insF g j i) (a := j) (by omega)]
  congr 1
  · exact seg_congr fun k p q => by unfold insF; rw [if_neg (by omega), if_neg (by omega)]
  · congr 1
    · unfold insF; rw [if_pos rfl]
    · exact seg_shift (by omega) fun k hk => by unfold insF; rw [if_neg (by omega), if_pos (by omega)]; congr 1; omega
theorem ins_step {c : Int → Int → Bool} (hc : SW c) {f g : Nat → Int} {a i j : Nat} (hai : a < i) (hg : Srt c f g a i) (hasc : ∀ k, a ≤ k → k < i → f k < f i) (haj : a ≤ j) (hji : j ≤ i) (h1 : a < j → c (g i) (g (j - 1)) = false) (h2 : ∀ k, j ≤ k → k < i → c (g i) (g k) = true) : Srt c f (insF g j i) a (i + 1) := by
  have hx : g i = f i := hg.out i (.inr (Nat.le_refl _))
  have es : seg g a i = seg g a j ++ seg g j i := seg_append haj hji
  refine ⟨fun k hk => ?_, ?_, ?_⟩
  · unfold insF; rw [if_neg (by omega), if_neg (by omega)]; exact hg.out k (by omega)
  · rw [insF_seg haj hji, seg_snoc (by omega), ← hx]
    refine List.perm_middle.trans ?_
    rw [← es]
    exact (List.perm_append_singleton _ _).symm.trans (hg.perm.append_right _)
  · rw [insF_seg haj hji]
    refine put_fits hc (by rw [← es]; exact hg.pw) (fun y hy => ?_) (fun A' y e => ?_) (fun b hb => ?_)
    · rw [← es] at hy
      obtain ⟨k, p, q, rfl⟩ := mem_seg.1 (hg.perm.mem_iff.1 hy)
      rw [hx]; exact hasc k p q
    · by_cases hlt : a < j
      · obtain ⟨j', rfl⟩ : ∃ j', j = j' + 1 := ⟨j - 1, by omega⟩
        rw [seg_snoc (by omega)] at e
        have := (List.append_inj' e rfl).2
        simp only [List.cons.injEq, and_true] at this
        rw [← this]; exact h1 hlt
      · rw [seg_nil (by omega)] at e
        exact absurd e.symm (by simp)
    · obtain ⟨k, p, q, rfl⟩ := mem_seg.1 hb
      exact h2 k p q
end Go.Proofs.YtgdmaadikcnagaaDoor
namespace Go.Proofs.YtgdmaadikcnagaaDoor
open Go Go.Gx Go.RowKit
set_option linter.unusedVariables false
set_option linter.unusedSimpArgs false

def cS (sp : List GSpot) (x y : Int) : Bool := decide (cmpS sp x y < 0)
theorem cS_iff {sp : List GSpot} {x y : Int} : cS sp x y = true ↔ (nth sp x).At < (nth sp y).At ∨ ((nth sp x).At = (nth sp y).At ∧ (nth sp x).Contract < (nth sp y).Contract) := by
  unfold cS cmpS orI cmp1
  rw [decide_eq_true_iff]
  (repeat' split) <;> omega
theorem cS_sw (sp : List GSpot) : SW (cS sp) where
  irrefl x := by
    cases h : cS sp x x with
    | false => rfl
    | true => rw [cS_iff] at h; omega
  trans x y z h1 h2 := by rw [cS_iff] at *; omega
  ntrans x y z h1 h2 := by
    cases h : cS sp x z with
    | false => rfl
    | true =>
      have k1 : ¬ cS sp x y = true := by rw [h1]; simp
      have k2 : ¬ cS sp y z = true := by rw [h2]; simp
      rw [cS_iff] at h k1 k2; omega
theorem Srt.bound {c : Int → Int → Bool} {f g : Nat → Int} {a b N : Nat} {m : Int} (h : Srt c f g a b) (hb : b ≤ N) (hf : ∀ k, k < N → 0 ≤ f k ∧ f k < m) : ∀ k, k < N → 0 ≤ g k ∧ g k < m := by
  intro k hk
  by_cases hin : a ≤ k ∧ k < b
  · obtain ⟨k', p, q, e⟩ := mem_seg.1 (h.perm.mem_iff.1 (mem_seg.2 ⟨k, hin.1, hin.2, rfl⟩))
    rw [e]; exact hf k' (by omega)
  · rw [h.out k (by omega)]; exact hf k hk
theorem insF_bound {g : Nat → Int} {j i N : Nat} {m : Int} (hi : i < N) (hg : ∀ k, k < N → 0 ≤ g k ∧ g k < m) : ∀ k, k < N → 0 ≤ insF g j i k ∧ insF g j i k < m := by
  intro k hk; unfold insF
  (repeat' split)
  · exact hg i hi
  · exact hg (k - 1) (by omega)
  · exact hg k hk
theorem Srt.refl {c : Int → Int → Bool} {f : Nat → Int} {a : Nat} : Srt c f f a (a + 1) := ⟨fun _ _ => rfl, List.Perm.refl _, by rw [seg_one]; exact List.pairwise_singleton _ _⟩
/-- The comparator at hand: its cell, and the spots. -/
abbrev cv51 (bc : Nat) : Value := .func (.func 61) #[] [.pointer (some ⟨bc, 0, none⟩)].toArray
theorem cmp_at {sp : List GSpot} {sv : Value} {bc : Nat} {x y : Int} {f : Nat → Int} {N : Nat} {v : Value} {ex : List Ob} {w0 w : World} (S : St w0 w (rowT v f N :: .var bc 64 [sv] :: ex)) (hr : Rd fGSpot.ty w0 sv sp) (hx : 0 ≤ x ∧ x < sp.length) (hy : 0 ≤ y ∧ y < sp.length) :
    CallsV Tryd.prog 61 (.int .i64 x :: .int .i64 y :: [.pointer (some ⟨bc, 0, none⟩)]).toArray w (.int .i64 (cmpS sp x y)) :=
  cmp_spec (S.var (i := 1) rfl) (hr.mono S.below) hx hy
theorem ins_run {sp : List GSpot} {sv v : Value} {bc : Nat} {f : Nat → Int} {N a b : Nat} {x y : Int} {ex : List Ob} {w0 w : World} (S : St w0 w (rowT v f N :: .var bc 64 [sv] :: ex)) (hr : Rd fGSpot.ty w0 sv sp) (hx : x = a) (hy : y = b) (hab : a < b) (hb : b ≤ N) (hN : N ≤ 1000000000)
    (hf : ∀ k, k < N → 0 ≤ f k ∧ f k < sp.length) (hasc : ∀ k k', a ≤ k → k < k' → k' < b → f k < f k') :
    CallsW Tryd.prog 101 #[v, .int .i64 x, .int .i64 y, cv51 bc] w (fun _ w' => ∃ g, Srt (cS sp) f g a b ∧ St w0 w' (rowT v g N :: .var bc 64 [sv] :: ex)) := by
  subst hx hy
  refine CallsW.mk ?_
  refine calls_enter Tryd.func101 rfl (by intro _ h; first | exact nomatch h.1 | (obtain ⟨_, h, _⟩ := h; exact nomatch h)) Tryd.ntmps101 rfl ?_
  repeat' (first | refine WP_seq ?_ | refine WP_region ?_ | refine wl_nil ?_ | refine then_normal ?_ | refine WP_block ?_ | (refine g_move ?_; refine st_move rfl ?_) | (refine g_assign ?_; refine st_assign rfl ?_) | (refine g_b_add ?_; (refine st_val rfl (r_addN rfl rfl ?_ ?_) ?_; (first | omega | (simp <;> omega)); (first | omega | (simp <;> omega)))))
  refine WP_loop (fun k σ w1 => ∃ (i : Nat) (p : Int) (g : Nat → Int), Has σ [(0, v), (1, .int .i64 (a : Int)), (2, .int .i64 (b : Int)), (3, cv51 bc), (8, .int .i64 p)] ∧ St w0 w1 (rowT v g N :: .var bc 64 [sv] :: ex) ∧ p = i ∧ a < i ∧ i ≤ b ∧ Srt (cS sp) f g a i ∧ k = b - i) (b - (a + 1)) ⟨a + 1, _, f, ⟨rfl, rfl, rfl, rfl, rfl, trivial⟩, S, by omega, by omega, by omega, Srt.refl, by omega⟩ ?_
  clear S
  rintro k σ w1 ⟨i, p, g, hs, S, rfl, hai, hib, hg, rfl⟩
  refine WP_has hs ?_
  by_cases hi : i < b
  · have hgb := hg.bound (by omega) hf
    repeat' (first | refine WP_seq ?_ | refine WP_region ?_ | refine wl_nil ?_ | refine then_normal ?_ | refine WP_skip ?_ | refine WP_block ?_ | (refine g_move ?_; refine st_move rfl ?_) | (refine g_assign ?_; refine st_assign rfl ?_) | (refine g_b_lss ?_; refine st_val rfl (r_lss rfl rfl) ?_) | (refine WP_cond rfl (fun h => ?_) (fun h => ?_) <;> (fail_if_success (have hh : true = true := h)) <;> (fail_if_success (have hh : false = false := h)) <;> (try simp only [decide_eq_true_eq, decide_eq_false_iff_not, Bool.not_eq_true', Bool.not_eq_false', Int.not_lt, Int.not_le] at h) <;> (try (exfalso; omega))))
    refine WP_loop (fun k σ w1 => ∃ (j : Nat) (q : Int), Has σ [(0, v), (1, .int .i64 (a : Int)), (2, .int .i64 (b : Int)), (3, cv51 bc), (8, .int .i64 (i : Int)), (9, .int .i64 q)] ∧ St w0 w1 (rowT v (insF g j i) N :: .var bc 64 [sv] :: ex) ∧ q = j ∧ a ≤ j ∧ j ≤ i ∧ (∀ k, j ≤ k → k < i → cS sp (g i) (g k) = true) ∧ k = j) i ⟨i, _, ⟨rfl, rfl, rfl, rfl, rfl, rfl, trivial⟩, by rw [insF_start]; exact S, rfl, by omega, by omega, fun k p q => by omega, rfl⟩ ?_
    clear S hs
    rintro k σ w1 ⟨j, q, hs, S, rfl, haj, hji, hall, hkj⟩
    refine WP_has hs ?_
    have hib' := insF_bound (j := j) (by omega : i < N) hgb
    have hl := @tab_len (insF g j i) N
    by_cases haj' : a < j
    · have e1 : nth (tab (insF g j i) N) (j : Int) = g i := by rw [tab_nth (i := j) (by omega) rfl]; unfold insF; rw [if_pos rfl]
      have e2 : nth (tab (insF g j i) N) ((j : Int) - 1) = g (j - 1) := by rw [tab_nth (i := j - 1) (by omega) (by omega)]; unfold insF; rw [if_neg (by omega), if_neg (by omega)]
      have b1 := hgb i (by omega)
      have b2 := hgb (j - 1) (by omega)
      by_cases hc : cmpS sp (g i) (g (j - 1)) < 0
      · repeat' (first | refine WP_seq ?_ | refine then_normal ?_ | refine WP_skip ?_ | refine WP_block ?_ | (refine Pm.WP_drawPerm [0,1,5,6,7,8,9,10,11,12,13] [2,3,4] [14,15,16,17] (by kernel_rfl) (by decide +kernel) (by decide +kernel) ?_; intro w hb; replace S := S.grow hb; clear hb) | refine WP_draw (by kernel_rfl) (by kernel_rfl) ?_ | (refine ql_nil ?_; intro w hb; replace S := S.grow hb; clear hb) | (refine g_indexAddr ?_; (refine st_val rfl (r_indexAddr (S.rdRow (D := (fInt .i64)) (i := 0) rfl) rfl rfl ?_ ?_) ?_; (first | omega | (simp <;> omega)); (first | omega | (simp <;> omega)))) | (refine gq_move ?_; refine q_move rfl ?_) | (refine gq_pick ?_; refine q_pickT rfl rfl ?_) | (refine gq_b_sub ?_; (refine q_val rfl (fun w' hb => r_subN rfl rfl ?_ ?_) ?_; (first | omega | (simp <;> omega)); (first | omega | (simp <;> omega)))) | (refine gq_b_lss ?_; refine q_val rfl (fun w' hb => r_lss rfl rfl) ?_) | (refine gq_b_gtr ?_; refine q_val rfl (fun w' hb => r_gtr rfl rfl) ?_) | (refine gq_indexAddr ?_; (refine q_val rfl (fun w' hb => r_indexAddr ((S.grow hb).rdRow (D := (fInt .i64)) (i := 0) rfl) rfl rfl ?_ ?_) ?_; (first | omega | (simp <;> omega)); (first | omega | (simp <;> omega)))) | (refine gq_load ?_; (refine q_val rfl (fun w' hb => r_loadElem1 ((S.grow hb).rdRow (D := (fInt .i64)) (i := 0) rfl) rfl ?_ ?_ rfl) ?_; (first | omega | (simp <;> omega)); (first | omega | (simp <;> omega)))) | (refine gq_callV ?_; refine q_callV rfl (fun w' hb => r_call2 rfl rfl rfl) (fun w' hb => (cmp_at (S.grow hb) hr (by rw [e1]; exact b1) (by rw [e2]; exact b2))) ?_) | (refine Pm.qp_nil ?_; intro w hb; replace S := S.grow hb; clear hb) | (refine Pm.qp_val rfl (fun w' => r_subN rfl rfl ?_ ?_) ?_; omega; omega) | (refine Pm.qp_val rfl (fun w' => ⟨rfl⟩) ?_) | (refine ql_split rfl rfl (fun h => ?_) (fun h => ?_) <;> (fail_if_success (have hh : true = true := h)) <;> (fail_if_success (have hh : false = false := h)) <;> (try simp only [decide_eq_true_eq, decide_eq_false_iff_not, Bool.not_eq_true', Bool.not_eq_false', Int.not_lt, Int.not_le] at h) <;> (try (exfalso; omega)) <;> (try (exfalso; rw [e1, e2] at h; omega; done))) | (refine WP_cond rfl (fun h => ?_) (fun h => ?_) <;> (fail_if_success (have hh : true = true := h)) <;> (fail_if_success (have hh : false = false := h)) <;> (try simp only [decide_eq_true_eq, decide_eq_false_iff_not, Bool.not_eq_true', Bool.not_eq_false', Int.not_lt, Int.not_le] at h) <;> (try (exfalso; omega)) <;> (try (exfalso; rw [e1, e2] at h; omega; done))))
        refine st_skipE rfl (r_storeElem (i := 0) (D := fInt .i64) S rfl rfl rfl rfl (fun c hc => by cases List.mem_singleton.1 hc; rfl) (by omega) (by omega)) ?_
        intro w S'
        replace S : St w0 w (rowT v (fun k => if k = j then g (j - 1) else insF g j i k) N :: .var bc 64 [sv] :: ex) := by
          rw [tab_put (i := j) (by omega) (by omega), e2] at S'; exact S'
        clear S'
        have hl := @tab_len (fun k => if k = j then g (j - 1) else insF g j i k) N
        repeat' ((refine g_indexAddr ?_; (refine st_val rfl (r_indexAddr (S.rdRow (D := (fInt .i64)) (i := 0) rfl) rfl rfl ?_ ?_) ?_; (first | omega | (simp <;> omega)); (first | omega | (simp <;> omega)))))
        refine st_skipE rfl (r_storeElem (i := 0) (D := fInt .i64) S rfl rfl rfl rfl (fun c hc => by cases List.mem_singleton.1 hc; rfl) (by omega) (by omega)) ?_
        intro w S'
        replace S : St w0 w (rowT v (insF g (j - 1) i) N :: .var bc 64 [sv] :: ex) := by
          rw [tab_put (i := j - 1) (by omega) (by omega), e1] at S'
          refine S'.eqos (congrArg (fun o => o :: Ob.var bc 64 [sv] :: ex) (rowT_ext fun k hk => ?_))
          unfold insF
          (repeat' split) <;> first | rfl | omega | (congr 1; omega)
        clear S'
        repeat' (first | refine WP_region ?_ | refine wl_nil ?_ | refine then_normal ?_ | refine inB_normal ?_ | (refine g_move ?_; refine st_move rfl ?_) | (refine g_assign ?_; refine st_assign rfl ?_) | (refine g_b_sub ?_; (refine st_val rfl (r_subN rfl rfl ?_ ?_) ?_; (first | omega | (simp <;> omega)); (first | omega | (simp <;> omega)))))
        refine ⟨⟨_, ?_, j - 1, _, ⟨rfl, rfl, rfl, rfl, rfl, rfl, trivial⟩, S, by omega, by omega, by omega, fun k' p q => ?_, rfl⟩⟩
        · omega
        · by_cases e : k' = j - 1
          · subst e; unfold cS; exact decide_eq_true hc
          · exact hall k' (by omega) q
      · repeat' (first | refine WP_seq ?_ | refine WP_region ?_ | refine wl_nil ?_ | refine then_normal ?_ | refine inB_normal ?_ | refine then_exit ?_ | refine inB_here ?_ | refine WP_exit ?_ | refine WP_draw (by kernel_rfl) (by kernel_rfl) ?_ | (refine ql_nil ?_; intro w hb; replace S := S.grow hb; clear hb) | (refine g_move ?_; refine st_move rfl ?_) | (refine g_assign ?_; refine st_assign rfl ?_) | (refine g_b_add ?_; (refine st_val rfl (r_addN rfl rfl ?_ ?_) ?_; (first | omega | (simp <;> omega)); (first | omega | (simp <;> omega)))) | (refine gq_move ?_; refine q_move rfl ?_) | (refine gq_pick ?_; refine q_pickT rfl rfl ?_) | (refine gq_b_sub ?_; (refine q_val rfl (fun w' hb => r_subN rfl rfl ?_ ?_) ?_; (first | omega | (simp <;> omega)); (first | omega | (simp <;> omega)))) | (refine gq_b_lss ?_; refine q_val rfl (fun w' hb => r_lss rfl rfl) ?_) | (refine gq_b_gtr ?_; refine q_val rfl (fun w' hb => r_gtr rfl rfl) ?_) | (refine gq_indexAddr ?_; (refine q_val rfl (fun w' hb => r_indexAddr ((S.grow hb).rdRow (D := (fInt .i64)) (i := 0) rfl) rfl rfl ?_ ?_) ?_; (first | omega | (simp <;> omega)); (first | omega | (simp <;> omega)))) | (refine gq_load ?_; (refine q_val rfl (fun w' hb => r_loadElem1 ((S.grow hb).rdRow (D := (fInt .i64)) (i := 0) rfl) rfl ?_ ?_ rfl) ?_; (first | omega | (simp <;> omega)); (first | omega | (simp <;> omega)))) | (refine gq_callV ?_; refine q_callV rfl (fun w' hb => r_call2 rfl rfl rfl) (fun w' hb => (cmp_at (S.grow hb) hr (by rw [e1]; exact b1) (by rw [e2]; exact b2))) ?_) | (refine ql_split rfl rfl (fun h => ?_) (fun h => ?_) <;> (fail_if_success (have hh : true = true := h)) <;> (fail_if_success (have hh : false = false := h)) <;> (try simp only [decide_eq_true_eq, decide_eq_false_iff_not, Bool.not_eq_true', Bool.not_eq_false', Int.not_lt, Int.not_le] at h) <;> (try (exfalso; omega)) <;> (try (exfalso; rw [e1, e2] at h; omega; done))) | (refine WP_cond rfl (fun h => ?_) (fun h => ?_) <;> (fail_if_success (have hh : true = true := h)) <;> (fail_if_success (have hh : false = false := h)) <;> (try simp only [decide_eq_true_eq, decide_eq_false_iff_not, Bool.not_eq_true', Bool.not_eq_false', Int.not_lt, Int.not_le] at h) <;> (try (exfalso; omega)) <;> (try (exfalso; rw [e1, e2] at h; omega; done))))
        refine ⟨⟨_, ?_, i + 1, _, _, ⟨rfl, rfl, rfl, rfl, rfl, trivial⟩, S, by omega, by omega, by omega, ins_step (cS_sw sp) hai hg (fun k p q => hasc k i p q hi) haj hji (fun _ => by unfold cS; exact decide_eq_false hc) hall, rfl⟩⟩
        omega
    · repeat' (first | refine WP_seq ?_ | refine WP_region ?_ | refine wl_nil ?_ | refine then_normal ?_ | refine inB_normal ?_ | refine then_exit ?_ | refine inB_here ?_ | refine WP_exit ?_ | refine WP_condF rfl ?_ | refine WP_draw (by kernel_rfl) (by kernel_rfl) ?_ | (refine ql_nil ?_; intro w hb; replace S := S.grow hb; clear hb) | (refine g_move ?_; refine st_move rfl ?_) | (refine g_assign ?_; refine st_assign rfl ?_) | (refine g_b_add ?_; (refine st_val rfl (r_addN rfl rfl ?_ ?_) ?_; (first | omega | (simp <;> omega)); (first | omega | (simp <;> omega)))) | (refine gq_guard ?_; refine q_off rfl ?_) | (refine gq_move ?_; refine q_move rfl ?_) | (refine gq_pick ?_; refine q_pickF rfl rfl ?_) | (refine gq_b_gtr ?_; refine q_val rfl (fun w' hb => r_gtr rfl rfl) ?_) | (refine ql_split rfl rfl (fun h => ?_) (fun h => ?_) <;> (fail_if_success (have hh : true = true := h)) <;> (fail_if_success (have hh : false = false := h)) <;> (try simp only [decide_eq_true_eq, decide_eq_false_iff_not, Bool.not_eq_true', Bool.not_eq_false', Int.not_lt, Int.not_le] at h) <;> (try (exfalso; omega))))
      refine ⟨⟨_, ?_, i + 1, _, _, ⟨rfl, rfl, rfl, rfl, rfl, trivial⟩, S, by omega, by omega, by omega, ins_step (cS_sw sp) hai hg (fun k p q => hasc k i p q hi) haj hji (fun h => absurd h haj') hall, rfl⟩⟩
      omega
  · repeat' (first | refine WP_seq ?_ | refine WP_region ?_ | refine wl_nil ?_ | refine then_normal ?_ | (refine g_move ?_; refine st_move rfl ?_) | (refine g_b_lss ?_; refine st_val rfl (r_lss rfl rfl) ?_))
    refine WP_cond rfl (fun h => absurd (of_decide_eq_true h) (by omega)) (fun h => ?_)
    refine WP_exit ?_
    refine then_exit ?_
    refine then_exit ?_
    refine inB_here ?_
    have e : i = b := by omega
    subst e
    exact end0 rfl ⟨_, rfl, g, hg, S⟩
end Go.Proofs.YtgdmaadikcnagaaDoor
namespace Go.Proofs.YtgdmaadikcnagaaDoor
open Go Go.Gx Go.RowKit
set_option linter.unusedVariables false
set_option linter.unusedSimpArgs false

theorem Srt.same {c : Int → Int → Bool} {f : Nat → Int} {a b : Nat} (h : (seg f a b).Pairwise (RS c)) : Srt c f f a b := ⟨fun _ _ => rfl, List.Perm.refl _, h⟩
theorem rotF_id {f : Nat → Int} {a m b : Nat} (h1 : a ≤ m) (h2 : m ≤ b) (h : a = m ∨ m = b) : rotF f a m b = f := by
  funext k; unfold rotF
  (repeat' split) <;> first | rfl | (congr 1; omega)
theorem pw_app {c : Int → Int → Bool} {f : Nat → Int} {a m b : Nat} (h1 : a ≤ m) (h2 : m ≤ b) (h : (seg f a b).Pairwise (RS c)) : (seg f a m).Pairwise (RS c) ∧ (seg f m b).Pairwise (RS c) := by
  rw [seg_append h1 h2] at h
  exact ⟨(List.pairwise_append.1 h).1, (List.pairwise_append.1 h).2.1⟩
theorem seg_last {f : Nat → Int} {a b : Nat} {A : List Int} {x : Int} (h : seg f a b = A ++ [x]) : a < b ∧ x = f (b - 1) := by
  have hl : a < b := by
    have := congrArg List.length h
    rw [seg_len] at this; simp at this; omega
  obtain ⟨b', rfl⟩ : ∃ b', b = b' + 1 := ⟨b - 1, by omega⟩
  rw [seg_snoc (by omega)] at h
  have := (List.append_inj' h rfl).2
  simp only [List.cons.injEq, and_true] at this
  exact ⟨hl, this.symm⟩
theorem seg_head {f : Nat → Int} {a b : Nat} {B : List Int} {y : Int} (h : seg f a b = y :: B) : a < b ∧ y = f a := by
  have hl : a < b := by
    have := congrArg List.length h
    rw [seg_len] at this; simp at this; omega
  rw [seg_cons hl] at h
  simp only [List.cons.injEq] at h
  exact ⟨hl, h.1.symm⟩
theorem seg_rot {f : Nat → Int} {a s m e b mid : Nat} (h1 : a ≤ s) (h2 : s ≤ m) (h3 : m ≤ e) (h4 : e ≤ b) (hm : mid + m = s + e) :
    seg (rotF f s m e) a mid = seg f a s ++ seg f m e ∧ seg (rotF f s m e) mid b = seg f s m ++ seg f e b := by
  constructor
  · rw [seg_append (f := rotF f s m e) h1 (by omega : s ≤ mid)]
    congr 1
    · exact seg_congr fun k p q => by unfold rotF; rw [if_neg (by omega), if_neg (by omega)]
    · exact seg_shift (by omega) fun k hk => by unfold rotF; rw [if_pos (by omega)]; congr 1; omega
  · rw [seg_append (f := rotF f s m e) (by omega : mid ≤ e) h4]
    congr 1
    · exact seg_shift (by omega) fun k hk => by unfold rotF; rw [if_neg (by omega), if_pos (by omega)]; congr 1; omega
    · exact seg_congr fun k p q => by unfold rotF; rw [if_neg (by omega), if_neg (by omega)]
/-- Two runs next to each other, the second one of greater numbers. -/
structure Two (c : Int → Int → Bool) (f : Nat → Int) (a m b : Nat) : Prop where
  l : (seg f a m).Pairwise (RS c)
  r : (seg f m b).Pairwise (RS c)
  lt : ∀ k k', a ≤ k → k < m → m ≤ k' → k' < b → f k < f k'
theorem Two.mem {c : Int → Int → Bool} {f : Nat → Int} {a s m e b : Nat} (h : Two c f a m b) (h1 : a ≤ s) (h2 : s ≤ m) (h3 : m ≤ e) (h4 : e ≤ b) : ∀ x ∈ seg f a s ++ seg f s m, ∀ y ∈ seg f m e ++ seg f e b, x < y := by
  intro x hx y hy
  rw [← seg_append h1 h2] at hx
  rw [← seg_append h3 h4] at hy
  obtain ⟨k, p, q, rfl⟩ := mem_seg.1 hx
  obtain ⟨k', p', q', rfl⟩ := mem_seg.1 hy
  exact h.lt k k' p q p' q'
theorem sym_fits {c : Int → Int → Bool} (hc : SW c) {f g1 g2 : Nat → Int} {a s m e b mid : Nat} (h1 : a ≤ s) (h2 : s ≤ m) (h3 : m ≤ e) (h4 : e ≤ b) (hm : mid + m = s + e) (hT : Two c f a m b)
    (k1 : a < s → e < b → c (f e) (f (s - 1)) = false) (k2 : s < m → m < e → c (f (e - 1)) (f s) = true) (hg1 : Srt c (rotF f s m e) g1 a mid) (hg2 : Srt c g1 g2 mid b) : Srt c f g2 a b := by
  obtain ⟨r1, r2⟩ := seg_rot (f := f) h1 h2 h3 h4 hm
  have eX : seg g2 a mid = seg g1 a mid := seg_congr fun k p q => hg2.out k (.inl q)
  have eY : seg g1 mid b = seg (rotF f s m e) mid b := seg_congr fun k p q => hg1.out k (.inr p)
  have pX := hg1.perm
  have pY := hg2.perm
  rw [r1] at pX
  rw [eY, r2] at pY
  have hf := merge_fits hc (L1 := seg f a s) (L2 := seg f s m) (M1 := seg f m e) (M2 := seg f e b) (by rw [← seg_append h1 h2]; exact hT.l) (by rw [← seg_append h3 h4]; exact hT.r) (hT.mem h1 h2 h3 h4)
    (fun A x y B e1 e2 => by obtain ⟨p, rfl⟩ := seg_last e1; obtain ⟨q, rfl⟩ := seg_head e2; exact k1 p q)
    (fun A x y B e1 e2 => by obtain ⟨p, rfl⟩ := seg_last e1; obtain ⟨q, rfl⟩ := seg_head e2; exact k2 q p) pX pY hg1.pw hg2.pw
  have es : seg g2 a b = seg g1 a mid ++ seg g2 mid b := by rw [seg_append (f := g2) (by omega : a ≤ mid) (by omega : mid ≤ b), eX]
  refine ⟨fun k hk => ?_, ?_, ?_⟩
  · rw [hg2.out k (by omega), hg1.out k (by omega)]; unfold rotF; rw [if_neg (by omega), if_neg (by omega)]
  · rw [es, seg_append (f := f) (by omega : a ≤ m) (by omega : m ≤ b), seg_append (f := f) h1 h2, seg_append (f := f) h3 h4]; exact hf.1
  · rw [es]; exact hf.2
/-- The parts of the rotated row, as runs of their own. -/
theorem two_l {c : Int → Int → Bool} {f : Nat → Int} {a s m e b mid : Nat} (h1 : a ≤ s) (h2 : s ≤ m) (h3 : m ≤ e) (h4 : e ≤ b) (hm : mid + m = s + e) (hT : Two c f a m b) : Two c (rotF f s m e) a s mid := by
  refine ⟨?_, ?_, fun k k' p q p' q' => ?_⟩
  · rw [seg_congr (g := f) fun k p q => by unfold rotF; rw [if_neg (by omega), if_neg (by omega)]]
    exact (pw_app h1 h2 hT.l).1
  · rw [seg_shift (g := f) (c := m) (d := e) (by omega) fun k hk => by unfold rotF; rw [if_pos (by omega)]; congr 1; omega]
    exact (pw_app h3 h4 hT.r).1
  · have e1 : rotF f s m e k = f k := by unfold rotF; rw [if_neg (by omega), if_neg (by omega)]
    have e2 : rotF f s m e k' = f (k' - s + m) := by unfold rotF; rw [if_pos (by omega)]
    rw [e1, e2]; exact hT.lt _ _ p (by omega) (by omega) (by omega)
theorem two_r {c : Int → Int → Bool} {f g1 : Nat → Int} {a s m e b mid : Nat} (h1 : a ≤ s) (h2 : s ≤ m) (h3 : m ≤ e) (h4 : e ≤ b) (hm : mid + m = s + e) (hT : Two c f a m b) (hg : ∀ k, mid ≤ k → g1 k = rotF f s m e k) : Two c g1 mid e b := by
  refine ⟨?_, ?_, fun k k' p q p' q' => ?_⟩
  · rw [seg_shift (g := f) (c := s) (d := m) (by omega) fun k hk => by rw [hg _ (by omega)]; unfold rotF; rw [if_neg (by omega), if_pos (by omega)]; congr 1; omega]
    exact (pw_app h1 h2 hT.l).2
  · rw [seg_congr (g := f) fun k p q => by rw [hg _ (by omega)]; unfold rotF; rw [if_neg (by omega), if_neg (by omega)]]
    exact (pw_app h3 h4 hT.r).2
  · have e1 : g1 k = f (k - (e - m)) := by rw [hg k p]; unfold rotF; rw [if_neg (by omega), if_pos (by omega)]
    have e2 : g1 k' = f k' := by rw [hg k' (by omega)]; unfold rotF; rw [if_neg (by omega), if_neg (by omega)]
    rw [e1, e2]; exact hT.lt _ _ (by omega) (by omega) (by omega) (by omega)
/-- The first one taken to its place among those behind. -/
def shR (f : Nat → Int) (a k : Nat) (t : Nat) : Int := if t = k then f a else if a ≤ t ∧ t < k then f (t + 1) else f t
theorem shR_start (f : Nat → Int) (a : Nat) : shR f a a = f := by
  funext t; unfold shR
  split
  · rename_i h; rw [h]
  · rw [if_neg (by omega)]
theorem shR_seg {f : Nat → Int} {a k b : Nat} (h1 : a ≤ k) (h2 : k < b) : seg (shR f a k) a b = seg f (a + 1) (k + 1) ++ f a :: seg f (k + 1) b := by
  rw [seg_append h1 (by omega : k ≤ b), seg_cons (f := shR f a k) (a := k) h2]
  congr 1
  · exact seg_shift (by omega) fun t ht => by unfold shR; rw [if_neg (by omega), if_pos (by omega)]; congr 1; omega
  · congr 1
    · unfold shR; rw [if_pos rfl]
    · exact seg_congr fun t p q => by unfold shR; rw [if_neg (by omega), if_neg (by omega)]
theorem one_left {c : Int → Int → Bool} (hc : SW c) {f : Nat → Int} {a i b : Nat} (h1 : a + 1 ≤ i) (h2 : i ≤ b) (hT : Two c f a (a + 1) b) (k1 : i < b → c (f i) (f a) = false) (k2 : a + 1 < i → c (f (i - 1)) (f a) = true) : Srt c f (shR f a (i - 1)) a b := by
  have ei : i - 1 + 1 = i := by omega
  have es := shR_seg (f := f) (a := a) (k := i - 1) (b := b) (by omega) (by omega)
  rw [ei] at es
  have hr := pw_app h1 h2 hT.r
  have hall : ∀ y ∈ seg f i b, RS c (f a) y := fun y hy => by
    refine cut_fits hc (L1 := [f a]) (L2 := []) (M1 := []) (M2 := seg f i b) (List.pairwise_singleton _ _) hr.2 (fun x hx y hy => ?_) (fun A x y B e1 e2 => ?_) (fun A x y B e1 e2 => absurd e2 (by simp)) (f a) (List.mem_singleton.2 rfl) y hy
    · obtain ⟨k, p, q, rfl⟩ := mem_seg.1 (show y ∈ seg f i b from hy)
      rw [List.mem_singleton.1 (show x ∈ [f a] from hx)]
      exact hT.lt a k (by omega) (by omega) (by omega) q
    · obtain ⟨p, rfl⟩ := seg_head e2
      have : x = f a := by
        have := congrArg List.getLast? e1
        simp at this; exact this.symm
      rw [this]; exact k1 p
  have hf := merge_fits hc (L1 := []) (L2 := [f a]) (M1 := seg f (a + 1) i) (M2 := seg f i b) (X := seg f (a + 1) i) (Y := f a :: seg f i b) (List.pairwise_singleton _ _) (by rw [← seg_append h1 h2]; exact hT.r)
    (fun x hx y hy => by
      rw [← seg_append h1 h2] at hy
      obtain ⟨k, p, q, rfl⟩ := mem_seg.1 hy
      rw [List.mem_singleton.1 (show x ∈ [f a] from hx)]
      exact hT.lt a k (by omega) (by omega) p q)
    (fun A x y B e1 e2 => absurd e1 (by simp))
    (fun A x y B e1 e2 => by
      obtain ⟨p, rfl⟩ := seg_last e1
      simp only [List.cons.injEq] at e2
      rw [← e2.1]; exact k2 p) (List.Perm.refl _) (List.Perm.refl _) hr.1 (List.pairwise_cons.2 ⟨hall, hr.2⟩)
  refine ⟨fun k hk => ?_, ?_, ?_⟩
  · unfold shR; rw [if_neg (by omega), if_neg (by omega)]
  · rw [es, seg_cons (f := f) (by omega : a < b), seg_append (f := f) h1 h2]; exact hf.1
  · rw [es]; exact hf.2
theorem one_right {c : Int → Int → Bool} (hc : SW c) {f : Nat → Int} {a i m : Nat} (h1 : a ≤ i) (h2 : i ≤ m) (hT : Two c f a m (m + 1)) (k1 : a < i → c (f m) (f (i - 1)) = false) (k2 : i < m → c (f m) (f i) = true) : Srt c f (insF f i m) a (m + 1) := by
  have es := insF_seg (g := f) h1 h2
  have hl := pw_app h1 h2 hT.l
  have hlt : ∀ x ∈ seg f a i ++ seg f i m, x < f m := fun x hx => by
    rw [← seg_append h1 h2] at hx
    obtain ⟨k, p, q, rfl⟩ := mem_seg.1 hx
    exact hT.lt k m p q (Nat.le_refl _) (by omega)
  have hall : ∀ y ∈ seg f i m, RS c (f m) y := fun y hy => by
    refine cut_fits hc (L1 := seg f a i) (L2 := seg f i m) (M1 := [f m]) (M2 := []) (by rw [← seg_append h1 h2]; exact hT.l) (List.pairwise_singleton _ _) (fun x hx y hy => ?_) (fun A x y B e1 e2 => absurd e2 (by simp)) (fun A x y B e1 e2 => ?_) (f m) (List.mem_append.2 (.inr (List.mem_singleton.2 rfl))) y (List.mem_append.2 (.inl hy))
    · rw [List.mem_singleton.1 (show y ∈ [f m] from hy)]; exact hlt x hx
    · obtain ⟨p, rfl⟩ := seg_head e2
      have : x = f m := by
        have := congrArg List.getLast? e1
        simp at this; exact this.symm
      rw [this]; exact k2 p
  have hbe : ∀ x ∈ seg f a i, RS c x (f m) := fun x hx => by
    refine cut_fits hc (L1 := seg f a i) (L2 := seg f i m) (M1 := []) (M2 := [f m]) (by rw [← seg_append h1 h2]; exact hT.l) (List.pairwise_singleton _ _) (fun x hx y hy => ?_) (fun A x y B e1 e2 => ?_) (fun A x y B e1 e2 => absurd e1 (by simp)) x (List.mem_append.2 (.inl hx)) (f m) (List.mem_append.2 (.inr (List.mem_singleton.2 rfl)))
    · rw [List.mem_singleton.1 (show y ∈ [f m] from hy)]; exact hlt x hx
    · obtain ⟨p, rfl⟩ := seg_last e1
      simp only [List.cons.injEq] at e2
      rw [← e2.1]; exact k1 p
  refine ⟨fun k hk => ?_, ?_, ?_⟩
  · unfold insF; rw [if_neg (by omega), if_neg (by omega)]
  · rw [es, seg_snoc (by omega), seg_append (f := f) h1 h2]
    exact List.perm_middle.trans (List.perm_append_singleton _ _).symm
  · rw [es]
    refine List.pairwise_append.2 ⟨hl.1, List.pairwise_cons.2 ⟨hall, hl.2⟩, fun x hx y hy => ?_⟩
    rcases List.mem_cons.1 hy with rfl | hy
    · exact hbe x hx
    · have h := hT.l
      rw [seg_append h1 h2] at h
      exact (List.pairwise_append.1 h).2.2 x hx y hy
end Go.Proofs.YtgdmaadikcnagaaDoor
namespace Go.Proofs.YtgdmaadikcnagaaDoor
open Go Go.Gx Go.RowKit
set_option linter.unusedVariables false
set_option linter.unusedSimpArgs false

theorem rot_at {v cv : Value} {f : Nat → Int} {N a m b : Nat} {x y z : Int} {ex : List Ob} {w0 w : World} (S : St w0 w (rowT v f N :: ex)) (hx : x = a) (hy : y = m) (hz : z = b) (ham : a < m) (hmb : m < b) (hb : b ≤ N) (hN : N ≤ 1000000000) :
    CallsW Tryd.prog 108 #[v, .int .i64 x, .int .i64 y, .int .i64 z, cv] w (fun _ w' => St w0 w' (rowT v (rotF f a m b) N :: ex)) := rot_run S hx hy hz ham hmb hb hN
theorem cS_of {sp : List GSpot} {x y : Int} (h : cmpS sp x y < 0) : cS sp x y = true := by unfold cS; exact decide_eq_true h
theorem cS_not {sp : List GSpot} {x y : Int} (h : ¬ cmpS sp x y < 0) : cS sp x y = false := by unfold cS; exact decide_eq_false h
theorem rotF_bound {f : Nat → Int} {s m e N : Nat} {z : Int} (h1 : s ≤ m) (h2 : m ≤ e) (h3 : e ≤ N) (hf : ∀ k, k < N → 0 ≤ f k ∧ f k < z) : ∀ t, t < N → 0 ≤ rotF f s m e t ∧ rotF f s m e t < z := by
  intro t ht; unfold rotF
  (repeat' split)
  · exact hf _ (by omega)
  · exact hf _ (by omega)
  · exact hf t ht
def SymP (sp : List GSpot) (sv : Value) (w0 : World) (n : Nat) : Prop := ∀ {v : Value} {bc : Nat} {f : Nat → Int} {N a m b : Nat} {x y z : Int} {ex : List Ob} {w : World}, b - a ≤ n → St w0 w (rowT v f N :: .var bc 64 [sv] :: ex) → x = a → y = m → z = b → a < m → m < b → b ≤ N → N ≤ 1000000000 →
    (∀ k, k < N → 0 ≤ f k ∧ f k < sp.length) → Two (cS sp) f a m b →
    CallsW Tryd.prog 102 #[v, .int .i64 x, .int .i64 y, .int .i64 z, cv51 bc] w (fun _ w' => ∃ g, Srt (cS sp) f g a b ∧ St w0 w' (rowT v g N :: .var bc 64 [sv] :: ex))
set_option maxHeartbeats 1000000 in
theorem sym_left {sp : List GSpot} {sv : Value} {w0 : World} (hr : Rd fGSpot.ty w0 sv sp) {v : Value} {bc : Nat} {f : Nat → Int} {N a m b : Nat} {x y z : Int} {ex : List Ob} {w : World} (S : St w0 w (rowT v f N :: .var bc 64 [sv] :: ex)) (hx : x = a) (hy : y = m) (hz : z = b) (ham : a < m) (hmb : m < b) (hb : b ≤ N) (hN : N ≤ 1000000000) (hf : ∀ k, k < N → 0 ≤ f k ∧ f k < sp.length) (hT : Two (cS sp) f a m b) (h1 : m = a + 1) :
    CallsW Tryd.prog 102 #[v, .int .i64 x, .int .i64 y, .int .i64 z, cv51 bc] w (fun _ w' => ∃ g, Srt (cS sp) f g a b ∧ St w0 w' (rowT v g N :: .var bc 64 [sv] :: ex)) := by
  subst hx hy hz
  refine CallsW.mk ?_
  refine calls_enter Tryd.func102 rfl (by intro _ h; first | exact nomatch h.1 | (obtain ⟨_, h, _⟩ := h; exact nomatch h)) Tryd.ntmps102 rfl ?_
  subst h1
  repeat' (first | refine WP_seq ?_ | refine WP_region ?_ | refine wl_nil ?_ | refine then_normal ?_ | refine WP_block ?_ | (refine g_move ?_; refine st_move rfl ?_) | (refine g_assign ?_; refine st_assign rfl ?_) | (refine g_b_sub ?_; (refine st_val rfl (r_subN rfl rfl ?_ ?_) ?_; (first | omega | (simp <;> omega)); (first | omega | (simp <;> omega)))) | (refine g_b_eql ?_; refine st_val rfl (r_eql rfl rfl) ?_) | (refine WP_cond rfl (fun h => ?_) (fun h => ?_) <;> (fail_if_success (have hh : true = true := h)) <;> (fail_if_success (have hh : false = false := h)) <;> (try simp only [decide_eq_true_eq, decide_eq_false_iff_not, Bool.not_eq_true', Bool.not_eq_false', Int.not_lt, Int.not_le] at h) <;> (try (exfalso; omega))))
  refine WP_loop (fun k σ w1 => ∃ (i j : Nat) (p q : Int), Has σ [(0, v), (1, .int .i64 (a : Int)), (4, cv51 bc), (10, .int .i64 p), (11, .int .i64 q)] ∧ St w0 w1 (rowT v f N :: .var bc 64 [sv] :: ex) ∧ p = i ∧ q = j ∧ a + 1 ≤ i ∧ i ≤ j ∧ j ≤ b ∧ (j < b → cS sp (f j) (f a) = false) ∧ (a + 1 < i → cS sp (f (i - 1)) (f a) = true) ∧ k = j - i) (b - (a + 1)) ⟨a + 1, b, _, _, ⟨rfl, rfl, rfl, rfl, rfl, trivial⟩, S, by omega, by omega, by omega, by omega, by omega, fun h => by omega, fun h => by omega, rfl⟩ ?_
  clear S
  rintro k σ w1 ⟨i, j, p, q, hs, S, rfl, rfl, hai, hij, hjb, k1, k2, hk⟩
  refine WP_has hs ?_
  have hl := @tab_len f N
  by_cases hlt : i < j
  · have e1 : nth (tab f N) (((i : Int) + j) / 2) = f ((i + j) / 2) := tab_nth (by omega) (by omega)
    have e2 : nth (tab f N) (a : Int) = f a := tab_nth (by omega) rfl
    have b1 := hf ((i + j) / 2) (by omega)
    have b2 := hf a (by omega)
    by_cases hc : cmpS sp (f ((i + j) / 2)) (f a) < 0
    · repeat' (first | refine WP_seq ?_ | refine WP_region ?_ | refine wl_nil ?_ | refine then_normal ?_ | refine inB_normal ?_ | refine WP_skip ?_ | refine WP_block ?_ | refine WP_draw (by kernel_rfl) (by kernel_rfl) ?_ | (refine ql_nil ?_; intro w hb; replace S := S.grow hb; clear hb) | (refine g_move ?_; refine st_move rfl ?_) | (refine g_assign ?_; refine st_assign rfl ?_) | (refine g_b_add ?_; (refine st_val rfl (r_addN rfl rfl ?_ ?_) ?_; (first | omega | (simp <;> omega)); (first | omega | (simp <;> omega)))) | (refine g_b_lss ?_; refine st_val rfl (r_lss rfl rfl) ?_) | (refine g_b_shr ?_; refine st_val rfl (r_shr1 rfl rfl) ?_) | (refine g_convert ?_; first | (refine st_val rfl (r_convI rfl ?_ ?_) ?_; (first | omega | (simp <;> omega)); (first | omega | (simp <;> omega))) | (refine st_val rfl (r_convU rfl ?_ ?_) ?_; (first | omega | (simp <;> omega)); (first | omega | (simp <;> omega)))) | (refine gq_move ?_; refine q_move rfl ?_) | (refine gq_b_lss ?_; refine q_val rfl (fun w' hb => r_lss rfl rfl) ?_) | (refine gq_indexAddr ?_; (refine q_val rfl (fun w' hb => r_indexAddr ((S.grow hb).rdRow (D := (fInt .i64)) (i := 0) rfl) rfl rfl ?_ ?_) ?_; (first | omega | (simp <;> omega)); (first | omega | (simp <;> omega)))) | (refine gq_load ?_; (refine q_val rfl (fun w' hb => r_loadElem1 ((S.grow hb).rdRow (D := (fInt .i64)) (i := 0) rfl) rfl ?_ ?_ rfl) ?_; (first | omega | (simp <;> omega)); (first | omega | (simp <;> omega)))) | (refine gq_callV ?_; refine q_callV rfl (fun w' hb => r_call2 rfl rfl rfl) (fun w' hb => (cmp_at (S.grow hb) hr (by rw [e1]; exact b1) (by rw [e2]; exact b2))) ?_) | (refine WP_cond rfl (fun h => ?_) (fun h => ?_) <;> (fail_if_success (have hh : true = true := h)) <;> (fail_if_success (have hh : false = false := h)) <;> (try simp only [decide_eq_true_eq, decide_eq_false_iff_not, Bool.not_eq_true', Bool.not_eq_false', Int.not_lt, Int.not_le] at h) <;> (try (exfalso; omega)) <;> (try (exfalso; rw [e1, e2] at h; omega; done))))
      refine ⟨⟨_, ?_, (i + j) / 2 + 1, j, _, _, ⟨rfl, rfl, rfl, rfl, rfl, trivial⟩, S, by omega, by omega, by omega, by omega, by omega, k1, fun _ => cS_of hc, rfl⟩⟩
      omega
    · repeat' (first | refine WP_seq ?_ | refine WP_region ?_ | refine wl_nil ?_ | refine then_normal ?_ | refine inB_normal ?_ | refine WP_skip ?_ | refine WP_block ?_ | refine WP_draw (by kernel_rfl) (by kernel_rfl) ?_ | (refine ql_nil ?_; intro w hb; replace S := S.grow hb; clear hb) | (refine g_move ?_; refine st_move rfl ?_) | (refine g_assign ?_; refine st_assign rfl ?_) | (refine g_b_add ?_; (refine st_val rfl (r_addN rfl rfl ?_ ?_) ?_; (first | omega | (simp <;> omega)); (first | omega | (simp <;> omega)))) | (refine g_b_lss ?_; refine st_val rfl (r_lss rfl rfl) ?_) | (refine g_b_shr ?_; refine st_val rfl (r_shr1 rfl rfl) ?_) | (refine g_convert ?_; first | (refine st_val rfl (r_convI rfl ?_ ?_) ?_; (first | omega | (simp <;> omega)); (first | omega | (simp <;> omega))) | (refine st_val rfl (r_convU rfl ?_ ?_) ?_; (first | omega | (simp <;> omega)); (first | omega | (simp <;> omega)))) | (refine gq_move ?_; refine q_move rfl ?_) | (refine gq_b_lss ?_; refine q_val rfl (fun w' hb => r_lss rfl rfl) ?_) | (refine gq_indexAddr ?_; (refine q_val rfl (fun w' hb => r_indexAddr ((S.grow hb).rdRow (D := (fInt .i64)) (i := 0) rfl) rfl rfl ?_ ?_) ?_; (first | omega | (simp <;> omega)); (first | omega | (simp <;> omega)))) | (refine gq_load ?_; (refine q_val rfl (fun w' hb => r_loadElem1 ((S.grow hb).rdRow (D := (fInt .i64)) (i := 0) rfl) rfl ?_ ?_ rfl) ?_; (first | omega | (simp <;> omega)); (first | omega | (simp <;> omega)))) | (refine gq_callV ?_; refine q_callV rfl (fun w' hb => r_call2 rfl rfl rfl) (fun w' hb => (cmp_at (S.grow hb) hr (by rw [e1]; exact b1) (by rw [e2]; exact b2))) ?_) | (refine WP_cond rfl (fun h => ?_) (fun h => ?_) <;> (fail_if_success (have hh : true = true := h)) <;> (fail_if_success (have hh : false = false := h)) <;> (try simp only [decide_eq_true_eq, decide_eq_false_iff_not, Bool.not_eq_true', Bool.not_eq_false', Int.not_lt, Int.not_le] at h) <;> (try (exfalso; omega)) <;> (try (exfalso; rw [e1, e2] at h; omega; done))))
      refine ⟨⟨_, ?_, i, (i + j) / 2, _, _, ⟨rfl, rfl, rfl, rfl, rfl, trivial⟩, S, by omega, by omega, by omega, by omega, by omega, fun _ => cS_not hc, k2, rfl⟩⟩
      omega
  · have hji : j = i := by omega
    subst hji
    have hres := one_left (cS_sw sp) hai (by omega) hT k1 k2
    repeat' (first | refine WP_seq ?_ | refine WP_region ?_ | refine wl_nil ?_ | refine then_normal ?_ | refine then_exit ?_ | refine inB_here ?_ | refine WP_exit ?_ | refine WP_block ?_ | (refine g_move ?_; refine st_move rfl ?_) | (refine g_assign ?_; refine st_assign rfl ?_) | (refine g_b_lss ?_; refine st_val rfl (r_lss rfl rfl) ?_) | (refine WP_cond rfl (fun h => ?_) (fun h => ?_) <;> (fail_if_success (have hh : true = true := h)) <;> (fail_if_success (have hh : false = false := h)) <;> (try simp only [decide_eq_true_eq, decide_eq_false_iff_not, Bool.not_eq_true', Bool.not_eq_false', Int.not_lt, Int.not_le] at h) <;> (try (exfalso; omega))))
    refine WP_loop (fun k σ w1 => ∃ (t : Nat) (p : Int), Has σ [(0, v), (10, .int .i64 (j : Int)), (13, .int .i64 p)] ∧ St w0 w1 (rowT v (shR f a t) N :: .var bc 64 [sv] :: ex) ∧ p = t ∧ a ≤ t ∧ t ≤ j - 1 ∧ k = j - t) (j - a) ⟨a, _, ⟨rfl, rfl, rfl, trivial⟩, by rw [shR_start]; exact S, rfl, by omega, by omega, by omega⟩ ?_
    clear S hs
    rintro k σ w1 ⟨t, p, hs, S, rfl, hat, htj, hk⟩
    refine WP_has hs ?_
    have hl := @tab_len (shR f a t) N
    by_cases htl : t < j - 1
    · have e1 : nth (tab (shR f a t) N) ((t : Int) + 1) = f (t + 1) := by rw [tab_nth (i := t + 1) (by omega) (by omega)]; unfold shR; rw [if_neg (by omega), if_neg (by omega)]
      have e2 : nth (tab (shR f a t) N) (t : Int) = f a := by rw [tab_nth (i := t) (by omega) rfl]; unfold shR; rw [if_pos rfl]
      repeat' (first | refine WP_seq ?_ | refine WP_region ?_ | refine wl_nil ?_ | refine then_normal ?_ | refine WP_skip ?_ | refine WP_block ?_ | (refine Pm.WP_drawPerm [0,1,5,6,7,8,9,10,11,12,13] [2,3,4] [14,15,16,17] (by kernel_rfl) (by decide +kernel) (by decide +kernel) ?_; intro w hb; replace S := S.grow hb; clear hb) | (refine ql_nil ?_; intro w hb; replace S := S.grow hb; clear hb) | (refine g_move ?_; refine st_move rfl ?_) | (refine g_b_sub ?_; (refine st_val rfl (r_subN rfl rfl ?_ ?_) ?_; (first | omega | (simp <;> omega)); (first | omega | (simp <;> omega)))) | (refine g_b_lss ?_; refine st_val rfl (r_lss rfl rfl) ?_) | (refine g_indexAddr ?_; (refine st_val rfl (r_indexAddr (S.rdRow (D := (fInt .i64)) (i := 0) rfl) rfl rfl ?_ ?_) ?_; (first | omega | (simp <;> omega)); (first | omega | (simp <;> omega)))) | (refine gq_move ?_; refine q_move rfl ?_) | (refine gq_b_add ?_; (refine q_val rfl (fun w' hb => r_addN rfl rfl ?_ ?_) ?_; (first | omega | (simp <;> omega)); (first | omega | (simp <;> omega)))) | (refine gq_indexAddr ?_; (refine q_val rfl (fun w' hb => r_indexAddr ((S.grow hb).rdRow (D := (fInt .i64)) (i := 0) rfl) rfl rfl ?_ ?_) ?_; (first | omega | (simp <;> omega)); (first | omega | (simp <;> omega)))) | (refine gq_load ?_; (refine q_val rfl (fun w' hb => r_loadElem1 ((S.grow hb).rdRow (D := (fInt .i64)) (i := 0) rfl) rfl ?_ ?_ rfl) ?_; (first | omega | (simp <;> omega)); (first | omega | (simp <;> omega)))) | (refine Pm.qp_nil ?_; intro w hb; replace S := S.grow hb; clear hb) | (refine Pm.qp_val rfl (fun w' => r_addN rfl rfl ?_ ?_) ?_; omega; omega) | (refine Pm.qp_val rfl (fun w' => ⟨rfl⟩) ?_) | (refine WP_cond rfl (fun h => ?_) (fun h => ?_) <;> (fail_if_success (have hh : true = true := h)) <;> (fail_if_success (have hh : false = false := h)) <;> (try simp only [decide_eq_true_eq, decide_eq_false_iff_not, Bool.not_eq_true', Bool.not_eq_false', Int.not_lt, Int.not_le] at h) <;> (try (exfalso; omega))))
      refine st_skipE rfl (r_storeElem (i := 0) (D := fInt .i64) S rfl rfl rfl rfl (fun c hc => by cases List.mem_singleton.1 hc; rfl) (by omega) (by omega)) ?_
      intro w S'
      replace S : St w0 w (rowT v (fun k => if k = t then f (t + 1) else shR f a t k) N :: .var bc 64 [sv] :: ex) := by
        rw [tab_put (i := t) (by omega) (by omega), e1] at S'; exact S'
      clear S'
      have hl := @tab_len (fun k => if k = t then f (t + 1) else shR f a t k) N
      repeat' ((refine g_indexAddr ?_; (refine st_val rfl (r_indexAddr (S.rdRow (D := (fInt .i64)) (i := 0) rfl) rfl rfl ?_ ?_) ?_; (first | omega | (simp <;> omega)); (first | omega | (simp <;> omega)))))
      refine st_skipE rfl (r_storeElem (i := 0) (D := fInt .i64) S rfl rfl rfl rfl (fun c hc => by cases List.mem_singleton.1 hc; rfl) (by omega) (by omega)) ?_
      intro w S'
      replace S : St w0 w (rowT v (shR f a (t + 1)) N :: .var bc 64 [sv] :: ex) := by
        rw [tab_put (i := t + 1) (by omega) (by omega), e2] at S'
        refine S'.eqos (congrArg (fun o => o :: Ob.var bc 64 [sv] :: ex) (rowT_ext fun k hk => ?_))
        unfold shR
        (repeat' split) <;> first | rfl | omega | (congr 1; omega)
      clear S'
      repeat' (first | refine WP_region ?_ | refine wl_nil ?_ | refine then_normal ?_ | refine inB_normal ?_ | (refine g_move ?_; refine st_move rfl ?_) | (refine g_assign ?_; refine st_assign rfl ?_) | (refine g_b_add ?_; (refine st_val rfl (r_addN rfl rfl ?_ ?_) ?_; (first | omega | (simp <;> omega)); (first | omega | (simp <;> omega)))))
      refine ⟨⟨_, ?_, t + 1, _, ⟨rfl, rfl, rfl, trivial⟩, S, by omega, by omega, by omega, rfl⟩⟩
      omega
    · repeat' (first | refine WP_seq ?_ | refine WP_region ?_ | refine wl_nil ?_ | refine then_normal ?_ | refine then_exit ?_ | refine inB_here ?_ | refine then_ret ?_ | refine WP_ret ?_ | refine WP_exit ?_ | (refine g_move ?_; refine st_move rfl ?_) | (refine g_b_sub ?_; (refine st_val rfl (r_subN rfl rfl ?_ ?_) ?_; (first | omega | (simp <;> omega)); (first | omega | (simp <;> omega)))) | (refine g_b_lss ?_; refine st_val rfl (r_lss rfl rfl) ?_) | (refine WP_cond rfl (fun h => ?_) (fun h => ?_) <;> (fail_if_success (have hh : true = true := h)) <;> (fail_if_success (have hh : false = false := h)) <;> (try simp only [decide_eq_true_eq, decide_eq_false_iff_not, Bool.not_eq_true', Bool.not_eq_false', Int.not_lt, Int.not_le] at h) <;> (try (exfalso; omega))))
      have et : t = j - 1 := by omega
      subst et
      exact end0r rfl ⟨_, rfl, _, hres, S⟩
set_option maxHeartbeats 1000000 in
theorem sym_right {sp : List GSpot} {sv : Value} {w0 : World} (hr : Rd fGSpot.ty w0 sv sp) {v : Value} {bc : Nat} {f : Nat → Int} {N a m b : Nat} {x y z : Int} {ex : List Ob} {w : World} (S : St w0 w (rowT v f N :: .var bc 64 [sv] :: ex)) (hx : x = a) (hy : y = m) (hz : z = b) (ham : a < m) (hmb : m < b) (hb : b ≤ N) (hN : N ≤ 1000000000) (hf : ∀ k, k < N → 0 ≤ f k ∧ f k < sp.length) (hT : Two (cS sp) f a m b) (h1 : ¬ m = a + 1) (h2 : b = m + 1) :
    CallsW Tryd.prog 102 #[v, .int .i64 x, .int .i64 y, .int .i64 z, cv51 bc] w (fun _ w' => ∃ g, Srt (cS sp) f g a b ∧ St w0 w' (rowT v g N :: .var bc 64 [sv] :: ex)) := by
  subst hx hy hz
  refine CallsW.mk ?_
  refine calls_enter Tryd.func102 rfl (by intro _ h; first | exact nomatch h.1 | (obtain ⟨_, h, _⟩ := h; exact nomatch h)) Tryd.ntmps102 rfl ?_
  subst h2
  repeat' (first | refine WP_seq ?_ | refine WP_region ?_ | refine wl_nil ?_ | refine then_normal ?_ | refine WP_skip ?_ | refine WP_block ?_ | (refine g_move ?_; refine st_move rfl ?_) | (refine g_assign ?_; refine st_assign rfl ?_) | (refine g_b_sub ?_; (refine st_val rfl (r_subN rfl rfl ?_ ?_) ?_; (first | omega | (simp <;> omega)); (first | omega | (simp <;> omega)))) | (refine g_b_eql ?_; refine st_val rfl (r_eql rfl rfl) ?_) | (refine WP_cond rfl (fun h => ?_) (fun h => ?_) <;> (fail_if_success (have hh : true = true := h)) <;> (fail_if_success (have hh : false = false := h)) <;> (try simp only [decide_eq_true_eq, decide_eq_false_iff_not, Bool.not_eq_true', Bool.not_eq_false', Int.not_lt, Int.not_le] at h) <;> (try (exfalso; omega))))
  refine WP_loop (fun k σ w1 => ∃ (i j : Nat) (p q : Int), Has σ [(0, v), (2, .int .i64 (m : Int)), (4, cv51 bc), (14, .int .i64 p), (15, .int .i64 q)] ∧ St w0 w1 (rowT v f N :: .var bc 64 [sv] :: ex) ∧ p = i ∧ q = j ∧ a ≤ i ∧ i ≤ j ∧ j ≤ m ∧ (j < m → cS sp (f m) (f j) = true) ∧ (a < i → cS sp (f m) (f (i - 1)) = false) ∧ k = j - i) (m - a) ⟨a, m, _, _, ⟨rfl, rfl, rfl, rfl, rfl, trivial⟩, S, by omega, by omega, by omega, by omega, by omega, fun h => by omega, fun h => by omega, rfl⟩ ?_
  clear S
  rintro k σ w1 ⟨i, j, p, q, hs, S, rfl, rfl, hai, hij, hjb, k1, k2, hk⟩
  refine WP_has hs ?_
  have hl := @tab_len f N
  by_cases hlt : i < j
  · have e2 : nth (tab f N) (((i : Int) + j) / 2) = f ((i + j) / 2) := tab_nth (by omega) (by omega)
    have e1 : nth (tab f N) (m : Int) = f m := tab_nth (by omega) rfl
    have b2 := hf ((i + j) / 2) (by omega)
    have b1 := hf m (by omega)
    by_cases hc : cmpS sp (f m) (f ((i + j) / 2)) < 0
    · repeat' (first | refine WP_seq ?_ | refine WP_region ?_ | refine wl_nil ?_ | refine then_normal ?_ | refine inB_normal ?_ | refine WP_skip ?_ | refine WP_block ?_ | refine WP_draw (by kernel_rfl) (by kernel_rfl) ?_ | (refine ql_nil ?_; intro w hb; replace S := S.grow hb; clear hb) | (refine g_move ?_; refine st_move rfl ?_) | (refine g_assign ?_; refine st_assign rfl ?_) | (refine g_b_add ?_; (refine st_val rfl (r_addN rfl rfl ?_ ?_) ?_; (first | omega | (simp <;> omega)); (first | omega | (simp <;> omega)))) | (refine g_b_lss ?_; refine st_val rfl (r_lss rfl rfl) ?_) | (refine g_b_shr ?_; refine st_val rfl (r_shr1 rfl rfl) ?_) | (refine g_convert ?_; first | (refine st_val rfl (r_convI rfl ?_ ?_) ?_; (first | omega | (simp <;> omega)); (first | omega | (simp <;> omega))) | (refine st_val rfl (r_convU rfl ?_ ?_) ?_; (first | omega | (simp <;> omega)); (first | omega | (simp <;> omega)))) | (refine gq_move ?_; refine q_move rfl ?_) | (refine gq_b_lss ?_; refine q_val rfl (fun w' hb => r_lss rfl rfl) ?_) | (refine gq_un ?_; refine q_val rfl (fun w' hb => r_not rfl) ?_) | (refine gq_indexAddr ?_; (refine q_val rfl (fun w' hb => r_indexAddr ((S.grow hb).rdRow (D := (fInt .i64)) (i := 0) rfl) rfl rfl ?_ ?_) ?_; (first | omega | (simp <;> omega)); (first | omega | (simp <;> omega)))) | (refine gq_load ?_; (refine q_val rfl (fun w' hb => r_loadElem1 ((S.grow hb).rdRow (D := (fInt .i64)) (i := 0) rfl) rfl ?_ ?_ rfl) ?_; (first | omega | (simp <;> omega)); (first | omega | (simp <;> omega)))) | (refine gq_callV ?_; refine q_callV rfl (fun w' hb => r_call2 rfl rfl rfl) (fun w' hb => (cmp_at (S.grow hb) hr (by rw [e1]; exact b1) (by rw [e2]; exact b2))) ?_) | (refine WP_cond rfl (fun h => ?_) (fun h => ?_) <;> (fail_if_success (have hh : true = true := h)) <;> (fail_if_success (have hh : false = false := h)) <;> (try simp only [decide_eq_true_eq, decide_eq_false_iff_not, Bool.not_eq_true', Bool.not_eq_false', Int.not_lt, Int.not_le] at h) <;> (try (exfalso; omega)) <;> (try (exfalso; rw [e1, e2] at h; omega; done))))
      refine ⟨⟨_, ?_, i, (i + j) / 2, _, _, ⟨rfl, rfl, rfl, rfl, rfl, trivial⟩, S, by omega, by omega, by omega, by omega, by omega, fun _ => cS_of hc, k2, rfl⟩⟩
      omega
    · repeat' (first | refine WP_seq ?_ | refine WP_region ?_ | refine wl_nil ?_ | refine then_normal ?_ | refine inB_normal ?_ | refine WP_skip ?_ | refine WP_block ?_ | refine WP_draw (by kernel_rfl) (by kernel_rfl) ?_ | (refine ql_nil ?_; intro w hb; replace S := S.grow hb; clear hb) | (refine g_move ?_; refine st_move rfl ?_) | (refine g_assign ?_; refine st_assign rfl ?_) | (refine g_b_add ?_; (refine st_val rfl (r_addN rfl rfl ?_ ?_) ?_; (first | omega | (simp <;> omega)); (first | omega | (simp <;> omega)))) | (refine g_b_lss ?_; refine st_val rfl (r_lss rfl rfl) ?_) | (refine g_b_shr ?_; refine st_val rfl (r_shr1 rfl rfl) ?_) | (refine g_convert ?_; first | (refine st_val rfl (r_convI rfl ?_ ?_) ?_; (first | omega | (simp <;> omega)); (first | omega | (simp <;> omega))) | (refine st_val rfl (r_convU rfl ?_ ?_) ?_; (first | omega | (simp <;> omega)); (first | omega | (simp <;> omega)))) | (refine gq_move ?_; refine q_move rfl ?_) | (refine gq_b_lss ?_; refine q_val rfl (fun w' hb => r_lss rfl rfl) ?_) | (refine gq_un ?_; refine q_val rfl (fun w' hb => r_not rfl) ?_) | (refine gq_indexAddr ?_; (refine q_val rfl (fun w' hb => r_indexAddr ((S.grow hb).rdRow (D := (fInt .i64)) (i := 0) rfl) rfl rfl ?_ ?_) ?_; (first | omega | (simp <;> omega)); (first | omega | (simp <;> omega)))) | (refine gq_load ?_; (refine q_val rfl (fun w' hb => r_loadElem1 ((S.grow hb).rdRow (D := (fInt .i64)) (i := 0) rfl) rfl ?_ ?_ rfl) ?_; (first | omega | (simp <;> omega)); (first | omega | (simp <;> omega)))) | (refine gq_callV ?_; refine q_callV rfl (fun w' hb => r_call2 rfl rfl rfl) (fun w' hb => (cmp_at (S.grow hb) hr (by rw [e1]; exact b1) (by rw [e2]; exact b2))) ?_) | (refine WP_cond rfl (fun h => ?_) (fun h => ?_) <;> (fail_if_success (have hh : true = true := h)) <;> (fail_if_success (have hh : false = false := h)) <;> (try simp only [decide_eq_true_eq, decide_eq_false_iff_not, Bool.not_eq_true', Bool.not_eq_false', Int.not_lt, Int.not_le] at h) <;> (try (exfalso; omega)) <;> (try (exfalso; rw [e1, e2] at h; omega; done))))
      refine ⟨⟨_, ?_, (i + j) / 2 + 1, j, _, _, ⟨rfl, rfl, rfl, rfl, rfl, trivial⟩, S, by omega, by omega, by omega, by omega, by omega, k1, fun _ => cS_not hc, rfl⟩⟩
      omega
  · have hji : j = i := by omega
    subst hji
    have hres := one_right (cS_sw sp) hai (by omega) hT k2 k1
    repeat' (first | refine WP_seq ?_ | refine WP_region ?_ | refine wl_nil ?_ | refine then_normal ?_ | refine then_exit ?_ | refine inB_here ?_ | refine WP_exit ?_ | refine WP_block ?_ | (refine g_move ?_; refine st_move rfl ?_) | (refine g_assign ?_; refine st_assign rfl ?_) | (refine g_b_lss ?_; refine st_val rfl (r_lss rfl rfl) ?_) | (refine WP_cond rfl (fun h => ?_) (fun h => ?_) <;> (fail_if_success (have hh : true = true := h)) <;> (fail_if_success (have hh : false = false := h)) <;> (try simp only [decide_eq_true_eq, decide_eq_false_iff_not, Bool.not_eq_true', Bool.not_eq_false', Int.not_lt, Int.not_le] at h) <;> (try (exfalso; omega))))
    refine WP_loop (fun k σ w1 => ∃ (t : Nat) (p : Int), Has σ [(0, v), (14, .int .i64 (j : Int)), (17, .int .i64 p)] ∧ St w0 w1 (rowT v (insF f t m) N :: .var bc 64 [sv] :: ex) ∧ p = t ∧ j ≤ t ∧ t ≤ m ∧ k = t) m ⟨m, _, ⟨rfl, rfl, rfl, trivial⟩, by rw [insF_start]; exact S, rfl, by omega, by omega, by omega⟩ ?_
    clear S hs
    rintro k σ w1 ⟨t, p, hs, S, rfl, hat, htj, hk⟩
    refine WP_has hs ?_
    have hl := @tab_len (insF f t m) N
    by_cases htl : j < t
    · have e1 : nth (tab (insF f t m) N) (t : Int) = f m := by rw [tab_nth (i := t) (by omega) rfl]; unfold insF; rw [if_pos rfl]
      have e2 : nth (tab (insF f t m) N) ((t : Int) - 1) = f (t - 1) := by rw [tab_nth (i := t - 1) (by omega) (by omega)]; unfold insF; rw [if_neg (by omega), if_neg (by omega)]
      repeat' (first | refine WP_seq ?_ | refine WP_region ?_ | refine wl_nil ?_ | refine then_normal ?_ | refine WP_skip ?_ | refine WP_block ?_ | (refine Pm.WP_drawPerm [0,1,5,6,7,8,9,10,11,12,13] [2,3,4] [14,15,16,17] (by kernel_rfl) (by decide +kernel) (by decide +kernel) ?_; intro w hb; replace S := S.grow hb; clear hb) | (refine ql_nil ?_; intro w hb; replace S := S.grow hb; clear hb) | (refine g_move ?_; refine st_move rfl ?_) | (refine g_b_gtr ?_; refine st_val rfl (r_gtr rfl rfl) ?_) | (refine g_indexAddr ?_; (refine st_val rfl (r_indexAddr (S.rdRow (D := (fInt .i64)) (i := 0) rfl) rfl rfl ?_ ?_) ?_; (first | omega | (simp <;> omega)); (first | omega | (simp <;> omega)))) | (refine gq_move ?_; refine q_move rfl ?_) | (refine gq_b_sub ?_; (refine q_val rfl (fun w' hb => r_subN rfl rfl ?_ ?_) ?_; (first | omega | (simp <;> omega)); (first | omega | (simp <;> omega)))) | (refine gq_indexAddr ?_; (refine q_val rfl (fun w' hb => r_indexAddr ((S.grow hb).rdRow (D := (fInt .i64)) (i := 0) rfl) rfl rfl ?_ ?_) ?_; (first | omega | (simp <;> omega)); (first | omega | (simp <;> omega)))) | (refine gq_load ?_; (refine q_val rfl (fun w' hb => r_loadElem1 ((S.grow hb).rdRow (D := (fInt .i64)) (i := 0) rfl) rfl ?_ ?_ rfl) ?_; (first | omega | (simp <;> omega)); (first | omega | (simp <;> omega)))) | (refine Pm.qp_nil ?_; intro w hb; replace S := S.grow hb; clear hb) | (refine Pm.qp_val rfl (fun w' => r_subN rfl rfl ?_ ?_) ?_; omega; omega) | (refine Pm.qp_val rfl (fun w' => ⟨rfl⟩) ?_) | (refine WP_cond rfl (fun h => ?_) (fun h => ?_) <;> (fail_if_success (have hh : true = true := h)) <;> (fail_if_success (have hh : false = false := h)) <;> (try simp only [decide_eq_true_eq, decide_eq_false_iff_not, Bool.not_eq_true', Bool.not_eq_false', Int.not_lt, Int.not_le] at h) <;> (try (exfalso; omega))))
      refine st_skipE rfl (r_storeElem (i := 0) (D := fInt .i64) S rfl rfl rfl rfl (fun c hc => by cases List.mem_singleton.1 hc; rfl) (by omega) (by omega)) ?_
      intro w S'
      replace S : St w0 w (rowT v (fun k => if k = t then f (t - 1) else insF f t m k) N :: .var bc 64 [sv] :: ex) := by
        rw [tab_put (i := t) (by omega) (by omega), e2] at S'; exact S'
      clear S'
      have hl := @tab_len (fun k => if k = t then f (t - 1) else insF f t m k) N
      repeat' ((refine g_indexAddr ?_; (refine st_val rfl (r_indexAddr (S.rdRow (D := (fInt .i64)) (i := 0) rfl) rfl rfl ?_ ?_) ?_; (first | omega | (simp <;> omega)); (first | omega | (simp <;> omega)))))
      refine st_skipE rfl (r_storeElem (i := 0) (D := fInt .i64) S rfl rfl rfl rfl (fun c hc => by cases List.mem_singleton.1 hc; rfl) (by omega) (by omega)) ?_
      intro w S'
      replace S : St w0 w (rowT v (insF f (t - 1) m) N :: .var bc 64 [sv] :: ex) := by
        rw [tab_put (i := t - 1) (by omega) (by omega), e1] at S'
        refine S'.eqos (congrArg (fun o => o :: Ob.var bc 64 [sv] :: ex) (rowT_ext fun k hk => ?_))
        unfold insF
        (repeat' split) <;> first | rfl | omega | (congr 1; omega)
      clear S'
      repeat' (first | refine WP_region ?_ | refine wl_nil ?_ | refine then_normal ?_ | refine inB_normal ?_ | (refine g_move ?_; refine st_move rfl ?_) | (refine g_assign ?_; refine st_assign rfl ?_) | (refine g_b_sub ?_; (refine st_val rfl (r_subN rfl rfl ?_ ?_) ?_; (first | omega | (simp <;> omega)); (first | omega | (simp <;> omega)))))
      refine ⟨⟨_, ?_, t - 1, _, ⟨rfl, rfl, rfl, trivial⟩, S, by omega, by omega, by omega, rfl⟩⟩
      omega
    · repeat' (first | refine WP_seq ?_ | refine WP_region ?_ | refine wl_nil ?_ | refine then_normal ?_ | refine then_exit ?_ | refine inB_here ?_ | refine then_ret ?_ | refine WP_ret ?_ | refine WP_exit ?_ | (refine g_move ?_; refine st_move rfl ?_) | (refine g_b_gtr ?_; refine st_val rfl (r_gtr rfl rfl) ?_) | (refine WP_cond rfl (fun h => ?_) (fun h => ?_) <;> (fail_if_success (have hh : true = true := h)) <;> (fail_if_success (have hh : false = false := h)) <;> (try simp only [decide_eq_true_eq, decide_eq_false_iff_not, Bool.not_eq_true', Bool.not_eq_false', Int.not_lt, Int.not_le] at h) <;> (try (exfalso; omega))))
      have et : t = j := by omega
      subst et
      exact end0r rfl ⟨_, rfl, _, hres, S⟩
end Go.Proofs.YtgdmaadikcnagaaDoor
namespace Go.Proofs.YtgdmaadikcnagaaDoor
open Go Go.Gx Go.RowKit
set_option linter.unusedVariables false
set_option linter.unusedSimpArgs false

theorem WP_then_cut {P : Program} {n : Nat} {Q : Post} {σ : Nat → Value} {w : World} {x : Code} {R : (Nat → Value) → World → Prop} (J : (Nat → Value) → World → Prop) (h : WP P n x (thenQ J Q) σ w) (k : ∀ σ' w', J σ' w' → R σ' w') : WP P n x (thenQ R Q) σ w :=
  WP_mono (fun e σ' w' hq => by
    refine ⟨?_⟩
    cases e with
    | normal => exact k _ _ hq.out
    | exit id => exact hq.out
    | goto l => exact hq.out
    | ret => exact hq.out
    | panic c => exact hq.out
    | outgrown => exact hq.out) h
set_option maxHeartbeats 2000000 in
theorem sym_step {sp : List GSpot} {sv : Value} {w0 : World} (hr : Rd fGSpot.ty w0 sv sp) (n : Nat) (ih : SymP sp sv w0 n) : SymP sp sv w0 (n + 1) := by
  intro v bc f N a m b x y z ex w hn S hx hy hz ham hmb hb hN hf hT
  by_cases h1 : m = a + 1
  · exact sym_left hr S hx hy hz ham hmb hb hN hf hT h1
  by_cases h2 : b = m + 1
  · exact sym_right hr S hx hy hz ham hmb hb hN hf hT h1 h2
  subst hx hy hz
  refine CallsW.mk ?_
  refine calls_enter Tryd.func102 rfl (by intro _ h; first | exact nomatch h.1 | (obtain ⟨_, h, _⟩ := h; exact nomatch h)) Tryd.ntmps102 rfl ?_
  obtain ⟨mid, hmid⟩ : ∃ mid, mid = (a + b) / 2 := ⟨_, rfl⟩
  have emid : ((a : Int) + b) / 2 = mid := by omega
  obtain ⟨s0, r0, hsr⟩ : ∃ s0 r0, (mid < m ∧ s0 = mid + m - b ∧ r0 = mid) ∨ (m ≤ mid ∧ s0 = a ∧ r0 = m) := by
    by_cases h : mid < m
    · exact ⟨_, _, .inl ⟨h, rfl, rfl⟩⟩
    · exact ⟨_, _, .inr ⟨by omega, rfl, rfl⟩⟩
  have hl := @tab_len f N
  repeat' (first | refine WP_seq ?_ | refine WP_region ?_ | refine wl_nil ?_ | refine then_normal ?_ | (refine g_move ?_; refine st_move rfl ?_) | (refine g_b_sub ?_; (refine st_val rfl (r_subN rfl rfl ?_ ?_) ?_; (first | omega | (simp <;> omega)); (first | omega | (simp <;> omega)))) | (refine g_b_eql ?_; refine st_val rfl (r_eql rfl rfl) ?_))
  refine WP_cond rfl (fun h => absurd (of_decide_eq_true h) (by omega)) (fun h => ?_)
  repeat' (first | refine WP_seq ?_ | refine WP_region ?_ | refine wl_nil ?_ | refine then_normal ?_ | refine WP_skip ?_ | (refine g_move ?_; refine st_move rfl ?_) | (refine g_b_sub ?_; (refine st_val rfl (r_subN rfl rfl ?_ ?_) ?_; (first | omega | (simp <;> omega)); (first | omega | (simp <;> omega)))) | (refine g_b_eql ?_; refine st_val rfl (r_eql rfl rfl) ?_))
  refine WP_cond rfl (fun h => absurd (of_decide_eq_true h) (by omega)) (fun h => ?_)
  repeat' (first | refine WP_seq ?_ | refine WP_region ?_ | refine wl_nil ?_ | refine then_normal ?_ | refine WP_skip ?_ | (refine g_move ?_; refine st_move rfl ?_) | (refine g_assign ?_; refine st_assign rfl ?_) | (refine g_b_add ?_; (refine st_val rfl (r_addN rfl rfl ?_ ?_) ?_; (first | omega | (simp <;> omega)); (first | omega | (simp <;> omega)))) | (refine g_b_gtr ?_; refine st_val rfl (r_gtr rfl rfl) ?_) | (refine g_b_shr ?_; refine st_val rfl (r_shr1 rfl rfl) ?_) | (refine g_convert ?_; first | (refine st_val rfl (r_convI rfl ?_ ?_) ?_; (first | omega | (simp <;> omega)); (first | omega | (simp <;> omega))) | (refine st_val rfl (r_convU rfl ?_ ?_) ?_; (first | omega | (simp <;> omega)); (first | omega | (simp <;> omega)))))
  refine WP_then_cut (fun σ w1 => ∃ (p q p1 p3 : Int), Has σ [(0, v), (1, .int .i64 (a : Int)), (2, .int .i64 (m : Int)), (3, .int .i64 (b : Int)), (4, cv51 bc), (18, .int .i64 p3), (19, .int .i64 p1), (20, .int .i64 p), (21, .int .i64 q)] ∧ St w0 w1 (rowT v f N :: .var bc 64 [sv] :: ex) ∧ p = s0 ∧ q = r0 ∧ p1 = (mid : Int) + m ∧ p3 = mid) ?_ ?_
  · by_cases hsm : mid < m
    · repeat' (first | refine WP_seq ?_ | refine WP_region ?_ | refine wl_nil ?_ | refine then_normal ?_ | (refine g_move ?_; refine st_move rfl ?_) | (refine g_assign ?_; refine st_assign rfl ?_) | (refine g_b_sub ?_; (refine st_val rfl (r_subN rfl rfl ?_ ?_) ?_; (first | omega | (simp <;> omega)); (first | omega | (simp <;> omega)))) | (refine WP_cond rfl (fun h => ?_) (fun h => ?_) <;> (fail_if_success (have hh : true = true := h)) <;> (fail_if_success (have hh : false = false := h)) <;> (try simp only [decide_eq_true_eq, decide_eq_false_iff_not, Bool.not_eq_true', Bool.not_eq_false', Int.not_lt, Int.not_le] at h) <;> (try (exfalso; omega))))
      exact ⟨_, _, _, _, ⟨rfl, rfl, rfl, rfl, rfl, rfl, rfl, rfl, rfl, trivial⟩, S, by omega, by omega, by omega, by omega⟩
    · repeat' (first | refine WP_seq ?_ | refine WP_region ?_ | refine wl_nil ?_ | refine then_normal ?_ | (refine g_move ?_; refine st_move rfl ?_) | (refine g_assign ?_; refine st_assign rfl ?_) | (refine WP_cond rfl (fun h => ?_) (fun h => ?_) <;> (fail_if_success (have hh : true = true := h)) <;> (fail_if_success (have hh : false = false := h)) <;> (try simp only [decide_eq_true_eq, decide_eq_false_iff_not, Bool.not_eq_true', Bool.not_eq_false', Int.not_lt, Int.not_le] at h) <;> (try (exfalso; omega))))
      exact ⟨_, _, _, _, ⟨rfl, rfl, rfl, rfl, rfl, rfl, rfl, rfl, rfl, trivial⟩, S, by omega, by omega, by omega, by omega⟩
  clear S
  rintro σ w1 ⟨p, q, p1, p3, hs, S, hp, hq, hp1, hp3⟩
  subst hp hq hp1 hp3
  refine WP_has hs ?_
  repeat' (first | refine WP_seq ?_ | refine WP_region ?_ | refine wl_nil ?_ | refine then_normal ?_ | refine WP_block ?_ | (refine g_move ?_; refine st_move rfl ?_) | (refine g_assign ?_; refine st_assign rfl ?_) | (refine g_b_sub ?_; (refine st_val rfl (r_subN rfl rfl ?_ ?_) ?_; (first | omega | (simp <;> omega)); (first | omega | (simp <;> omega)))))
  refine WP_loop (fun k σ w1 => ∃ (s r : Nat) (p q p1 p2 p3 : Int), Has σ [(0, v), (1, .int .i64 (a : Int)), (2, .int .i64 (m : Int)), (3, .int .i64 (b : Int)), (4, cv51 bc), (18, .int .i64 p3), (19, .int .i64 p1), (20, .int .i64 p), (21, .int .i64 q), (22, .int .i64 p2)] ∧ St w0 w1 (rowT v f N :: .var bc 64 [sv] :: ex) ∧ p = s ∧ q = r ∧ p1 = (mid : Int) + m ∧ p2 = (mid : Int) + m - 1 ∧ p3 = mid ∧ s0 ≤ s ∧ s ≤ r ∧ r ≤ r0 ∧ (s0 < s → cS sp (f (mid + m - s)) (f (s - 1)) = false) ∧ (r < r0 → cS sp (f (mid + m - 1 - r)) (f r) = true) ∧ k = r - s) (r0 - s0) ⟨s0, r0, _, _, _, _, _, ⟨rfl, rfl, rfl, rfl, rfl, rfl, rfl, rfl, rfl, rfl, trivial⟩, S, by omega, by omega, by omega, by omega, by omega, by omega, by omega, by omega, fun h => by omega, fun h => by omega, rfl⟩ ?_
  clear S hs
  rintro k σ w1 ⟨s, r, p, q, p1, p2, p3, hs, S, hp, hq, hp1, hp2, hp3, hs0, hsr', hr0, k1, k2, hk⟩
  subst hp hq hp1 hp2 hp3
  refine WP_has hs ?_
  by_cases hlt : s < r
  · have e1 : nth (tab f N) ((mid : Int) + m - 1 - ((s : Int) + r) / 2) = f (mid + m - 1 - (s + r) / 2) := tab_nth (by omega) (by omega)
    have e2 : nth (tab f N) (((s : Int) + r) / 2) = f ((s + r) / 2) := tab_nth (by omega) (by omega)
    have b1 := hf (mid + m - 1 - (s + r) / 2) (by omega)
    have b2 := hf ((s + r) / 2) (by omega)
    by_cases hc : cmpS sp (f (mid + m - 1 - (s + r) / 2)) (f ((s + r) / 2)) < 0
    · repeat' (first | refine WP_seq ?_ | refine WP_region ?_ | refine wl_nil ?_ | refine then_normal ?_ | refine inB_normal ?_ | refine WP_skip ?_ | refine WP_block ?_ | refine WP_draw (by kernel_rfl) (by kernel_rfl) ?_ | (refine ql_nil ?_; intro w hb; replace S := S.grow hb; clear hb) | (refine g_move ?_; refine st_move rfl ?_) | (refine g_assign ?_; refine st_assign rfl ?_) | (refine g_b_add ?_; (refine st_val rfl (r_addN rfl rfl ?_ ?_) ?_; (first | omega | (simp <;> omega)); (first | omega | (simp <;> omega)))) | (refine g_b_lss ?_; refine st_val rfl (r_lss rfl rfl) ?_) | (refine g_b_shr ?_; refine st_val rfl (r_shr1 rfl rfl) ?_) | (refine g_convert ?_; first | (refine st_val rfl (r_convI rfl ?_ ?_) ?_; (first | omega | (simp <;> omega)); (first | omega | (simp <;> omega))) | (refine st_val rfl (r_convU rfl ?_ ?_) ?_; (first | omega | (simp <;> omega)); (first | omega | (simp <;> omega)))) | (refine gq_move ?_; refine q_move rfl ?_) | (refine gq_b_sub ?_; (refine q_val rfl (fun w' hb => r_subN rfl rfl ?_ ?_) ?_; (first | omega | (simp <;> omega)); (first | omega | (simp <;> omega)))) | (refine gq_b_lss ?_; refine q_val rfl (fun w' hb => r_lss rfl rfl) ?_) | (refine gq_un ?_; refine q_val rfl (fun w' hb => r_not rfl) ?_) | (refine gq_indexAddr ?_; (refine q_val rfl (fun w' hb => r_indexAddr ((S.grow hb).rdRow (D := (fInt .i64)) (i := 0) rfl) rfl rfl ?_ ?_) ?_; (first | omega | (simp <;> omega)); (first | omega | (simp <;> omega)))) | (refine gq_load ?_; (refine q_val rfl (fun w' hb => r_loadElem1 ((S.grow hb).rdRow (D := (fInt .i64)) (i := 0) rfl) rfl ?_ ?_ rfl) ?_; (first | omega | (simp <;> omega)); (first | omega | (simp <;> omega)))) | (refine gq_callV ?_; refine q_callV rfl (fun w' hb => r_call2 rfl rfl rfl) (fun w' hb => (cmp_at (S.grow hb) hr (by rw [e1]; exact b1) (by rw [e2]; exact b2))) ?_) | (refine WP_cond rfl (fun h => ?_) (fun h => ?_) <;> (fail_if_success (have hh : true = true := h)) <;> (fail_if_success (have hh : false = false := h)) <;> (try simp only [decide_eq_true_eq, decide_eq_false_iff_not, Bool.not_eq_true', Bool.not_eq_false', Int.not_lt, Int.not_le] at h) <;> (try (exfalso; omega)) <;> (try (exfalso; rw [e1, e2] at h; omega; done))))
      refine ⟨⟨_, ?_, s, (s + r) / 2, _, _, _, _, _, ⟨rfl, rfl, rfl, rfl, rfl, rfl, rfl, rfl, rfl, rfl, trivial⟩, S, by omega, by omega, by omega, by omega, by omega, by omega, by omega, by omega, k1, fun _ => cS_of hc, rfl⟩⟩
      omega
    · repeat' (first | refine WP_seq ?_ | refine WP_region ?_ | refine wl_nil ?_ | refine then_normal ?_ | refine inB_normal ?_ | refine WP_skip ?_ | refine WP_block ?_ | refine WP_draw (by kernel_rfl) (by kernel_rfl) ?_ | (refine ql_nil ?_; intro w hb; replace S := S.grow hb; clear hb) | (refine g_move ?_; refine st_move rfl ?_) | (refine g_assign ?_; refine st_assign rfl ?_) | (refine g_b_add ?_; (refine st_val rfl (r_addN rfl rfl ?_ ?_) ?_; (first | omega | (simp <;> omega)); (first | omega | (simp <;> omega)))) | (refine g_b_lss ?_; refine st_val rfl (r_lss rfl rfl) ?_) | (refine g_b_shr ?_; refine st_val rfl (r_shr1 rfl rfl) ?_) | (refine g_convert ?_; first | (refine st_val rfl (r_convI rfl ?_ ?_) ?_; (first | omega | (simp <;> omega)); (first | omega | (simp <;> omega))) | (refine st_val rfl (r_convU rfl ?_ ?_) ?_; (first | omega | (simp <;> omega)); (first | omega | (simp <;> omega)))) | (refine gq_move ?_; refine q_move rfl ?_) | (refine gq_b_sub ?_; (refine q_val rfl (fun w' hb => r_subN rfl rfl ?_ ?_) ?_; (first | omega | (simp <;> omega)); (first | omega | (simp <;> omega)))) | (refine gq_b_lss ?_; refine q_val rfl (fun w' hb => r_lss rfl rfl) ?_) | (refine gq_un ?_; refine q_val rfl (fun w' hb => r_not rfl) ?_) | (refine gq_indexAddr ?_; (refine q_val rfl (fun w' hb => r_indexAddr ((S.grow hb).rdRow (D := (fInt .i64)) (i := 0) rfl) rfl rfl ?_ ?_) ?_; (first | omega | (simp <;> omega)); (first | omega | (simp <;> omega)))) | (refine gq_load ?_; (refine q_val rfl (fun w' hb => r_loadElem1 ((S.grow hb).rdRow (D := (fInt .i64)) (i := 0) rfl) rfl ?_ ?_ rfl) ?_; (first | omega | (simp <;> omega)); (first | omega | (simp <;> omega)))) | (refine gq_callV ?_; refine q_callV rfl (fun w' hb => r_call2 rfl rfl rfl) (fun w' hb => (cmp_at (S.grow hb) hr (by rw [e1]; exact b1) (by rw [e2]; exact b2))) ?_) | (refine WP_cond rfl (fun h => ?_) (fun h => ?_) <;> (fail_if_success (have hh : true = true := h)) <;> (fail_if_success (have hh : false = false := h)) <;> (try simp only [decide_eq_true_eq, decide_eq_false_iff_not, Bool.not_eq_true', Bool.not_eq_false', Int.not_lt, Int.not_le] at h) <;> (try (exfalso; omega)) <;> (try (exfalso; rw [e1, e2] at h; omega; done))))
      refine ⟨⟨_, ?_, (s + r) / 2 + 1, r, _, _, _, _, _, ⟨rfl, rfl, rfl, rfl, rfl, rfl, rfl, rfl, rfl, rfl, trivial⟩, S, by omega, by omega, by omega, by omega, by omega, by omega, by omega, by omega, fun _ => by rw [show mid + m - ((s + r) / 2 + 1) = mid + m - 1 - (s + r) / 2 by omega]; exact cS_not hc, k2, rfl⟩⟩
      omega
  · have hrs : r = s := by omega
    subst hrs
    obtain ⟨e, he⟩ : ∃ e, e = mid + m - r := ⟨_, rfl⟩
    have q1 : a ≤ r := by omega
    have q2 : r ≤ m := by omega
    have q3 : m ≤ e := by omega
    have q4 : e ≤ b := by omega
    have q5 : mid + m = r + e := by omega
    have K1 : a < r → e < b → cS sp (f e) (f (r - 1)) = false := fun x y => by rw [he]; exact k1 (by omega)
    have K2 : r < m → m < e → cS sp (f (e - 1)) (f r) = true := fun x y => by rw [show e - 1 = mid + m - 1 - r by omega]; exact k2 (by omega)
    repeat' (first | refine WP_seq ?_ | refine WP_region ?_ | refine wl_nil ?_ | refine then_normal ?_ | (refine g_move ?_; refine st_move rfl ?_) | (refine g_b_lss ?_; refine st_val rfl (r_lss rfl rfl) ?_))
    refine WP_cond rfl (fun h => absurd (of_decide_eq_true h) (by omega)) (fun h => ?_)
    refine WP_exit ?_
    refine then_exit ?_
    refine then_exit ?_
    refine inB_here ?_
    refine then_normal ?_
    refine WP_seq_cut (fun σ w1 => ∃ p, Has σ [(0, v), (1, .int .i64 (a : Int)), (2, .int .i64 (m : Int)), (3, .int .i64 (b : Int)), (4, cv51 bc), (18, .int .i64 (mid : Int)), (20, .int .i64 (r : Int)), (24, .int .i64 p)] ∧ p = e ∧ St w0 w1 (rowT v f N :: .var bc 64 [sv] :: ex)) ?_ ?_
    · repeat' (first | refine WP_region ?_ | refine wl_nil ?_ | refine then_normal ?_ | (refine g_move ?_; refine st_move rfl ?_) | (refine g_assign ?_; refine st_assign rfl ?_) | (refine g_b_sub ?_; (refine st_val rfl (r_subN rfl rfl ?_ ?_) ?_; (first | omega | (simp <;> omega)); (first | omega | (simp <;> omega)))))
      exact ⟨_, ⟨rfl, rfl, rfl, rfl, rfl, rfl, rfl, rfl, trivial⟩, by omega, S⟩
    clear S hs
    rintro σ w1 ⟨p, hs, hp, S⟩
    subst hp
    refine WP_has hs ?_
    refine WP_seq_cut (fun σ w1 => Has σ [(0, v), (1, .int .i64 (a : Int)), (3, .int .i64 (b : Int)), (4, cv51 bc), (18, .int .i64 (mid : Int)), (20, .int .i64 (r : Int)), (24, .int .i64 (e : Int))] ∧ St w0 w1 (rowT v (rotF f r m e) N :: .var bc 64 [sv] :: ex)) ?_ ?_
    · by_cases hR : r < m ∧ m < e
      · repeat' (first | refine WP_seq ?_ | refine WP_region ?_ | refine wl_nil ?_ | refine then_normal ?_ | (refine g_move ?_; refine st_move rfl ?_) | (refine g_pick ?_; refine st_pickT rfl rfl ?_) | (refine g_b_lss ?_; refine st_val rfl (r_lss rfl rfl) ?_) | (refine wl_split rfl rfl (fun h => ?_) (fun h => ?_) <;> (fail_if_success (have hh : true = true := h)) <;> (fail_if_success (have hh : false = false := h)) <;> (try simp only [decide_eq_true_eq, decide_eq_false_iff_not, Bool.not_eq_true', Bool.not_eq_false', Int.not_lt, Int.not_le] at h) <;> (try (exfalso; omega))) | (refine WP_cond rfl (fun h => ?_) (fun h => ?_) <;> (fail_if_success (have hh : true = true := h)) <;> (fail_if_success (have hh : false = false := h)) <;> (try simp only [decide_eq_true_eq, decide_eq_false_iff_not, Bool.not_eq_true', Bool.not_eq_false', Int.not_lt, Int.not_le] at h) <;> (try (exfalso; omega))))
        refine st_callW rfl (r_call5 rfl rfl rfl rfl rfl rfl) (rot_at S rfl rfl rfl hR.1 hR.2 (by omega) hN) ?_
        rintro u w S'
        replace S := S'; clear S'
        repeat' (first | refine wl_nil ?_ | refine then_normal ?_)
        exact ⟨⟨rfl, rfl, rfl, rfl, rfl, rfl, rfl, trivial⟩, S⟩
      · rw [← rotF_id q2 q3 (f := f) (by omega)] at S
        repeat' (first | refine WP_seq ?_ | refine WP_region ?_ | refine wl_nil ?_ | refine then_normal ?_ | refine WP_skip ?_ | refine WP_condF rfl ?_ | (refine g_guard ?_; refine st_off rfl ?_) | (refine g_move ?_; refine st_move rfl ?_) | (refine g_pick ?_; first | refine st_pickT rfl rfl ?_ | refine st_pickF rfl rfl ?_) | (refine g_b_lss ?_; refine st_val rfl (r_lss rfl rfl) ?_) | (refine wl_split rfl rfl (fun h => ?_) (fun h => ?_) <;> (fail_if_success (have hh : true = true := h)) <;> (fail_if_success (have hh : false = false := h)) <;> (try simp only [decide_eq_true_eq, decide_eq_false_iff_not, Bool.not_eq_true', Bool.not_eq_false', Int.not_lt, Int.not_le] at h) <;> (try (exfalso; omega))) | (refine WP_cond rfl (fun h => ?_) (fun h => ?_) <;> (fail_if_success (have hh : true = true := h)) <;> (fail_if_success (have hh : false = false := h)) <;> (try simp only [decide_eq_true_eq, decide_eq_false_iff_not, Bool.not_eq_true', Bool.not_eq_false', Int.not_lt, Int.not_le] at h) <;> (try (exfalso; omega))))
        all_goals exact ⟨⟨rfl, rfl, rfl, rfl, rfl, rfl, rfl, trivial⟩, S⟩
    clear S hs
    rintro σ w1 ⟨hs, S⟩
    refine WP_has hs ?_
    have hf2 := rotF_bound q2 q3 (by omega : e ≤ N) hf
    have T1 := two_l q1 q2 q3 q4 q5 hT
    refine WP_seq_cut (fun σ w1 => ∃ g, Has σ [(0, v), (3, .int .i64 (b : Int)), (4, cv51 bc), (18, .int .i64 (mid : Int)), (24, .int .i64 (e : Int))] ∧ Srt (cS sp) (rotF f r m e) g a mid ∧ St w0 w1 (rowT v g N :: .var bc 64 [sv] :: ex)) ?_ ?_
    · by_cases hR : a < r ∧ r < mid
      · repeat' (first | refine WP_seq ?_ | refine WP_region ?_ | refine wl_nil ?_ | refine then_normal ?_ | (refine g_move ?_; refine st_move rfl ?_) | (refine g_pick ?_; refine st_pickT rfl rfl ?_) | (refine g_b_lss ?_; refine st_val rfl (r_lss rfl rfl) ?_) | (refine wl_split rfl rfl (fun h => ?_) (fun h => ?_) <;> (fail_if_success (have hh : true = true := h)) <;> (fail_if_success (have hh : false = false := h)) <;> (try simp only [decide_eq_true_eq, decide_eq_false_iff_not, Bool.not_eq_true', Bool.not_eq_false', Int.not_lt, Int.not_le] at h) <;> (try (exfalso; omega))) | (refine WP_cond rfl (fun h => ?_) (fun h => ?_) <;> (fail_if_success (have hh : true = true := h)) <;> (fail_if_success (have hh : false = false := h)) <;> (try simp only [decide_eq_true_eq, decide_eq_false_iff_not, Bool.not_eq_true', Bool.not_eq_false', Int.not_lt, Int.not_le] at h) <;> (try (exfalso; omega))))
        refine st_callW rfl (r_call5 rfl rfl rfl rfl rfl rfl) (ih (by omega) S rfl rfl rfl hR.1 hR.2 (by omega) hN hf2 T1) ?_
        rintro u w ⟨g, hg, S'⟩
        replace S := S'; clear S'
        repeat' (first | refine wl_nil ?_ | refine then_normal ?_)
        exact ⟨g, ⟨rfl, rfl, rfl, rfl, rfl, trivial⟩, hg, S⟩
      · have hg : Srt (cS sp) (rotF f r m e) (rotF f r m e) a mid := by
          refine Srt.same ?_
          by_cases hx : a < r
          · have : mid = r := by omega
            rw [this]; exact T1.l
          · have : r = a := by omega
            have h := T1.r
            rw [this] at h ⊢; exact h
        repeat' (first | refine WP_seq ?_ | refine WP_region ?_ | refine wl_nil ?_ | refine then_normal ?_ | refine WP_skip ?_ | refine WP_condF rfl ?_ | (refine g_guard ?_; refine st_off rfl ?_) | (refine g_move ?_; refine st_move rfl ?_) | (refine g_pick ?_; first | refine st_pickT rfl rfl ?_ | refine st_pickF rfl rfl ?_) | (refine g_b_lss ?_; refine st_val rfl (r_lss rfl rfl) ?_) | (refine wl_split rfl rfl (fun h => ?_) (fun h => ?_) <;> (fail_if_success (have hh : true = true := h)) <;> (fail_if_success (have hh : false = false := h)) <;> (try simp only [decide_eq_true_eq, decide_eq_false_iff_not, Bool.not_eq_true', Bool.not_eq_false', Int.not_lt, Int.not_le] at h) <;> (try (exfalso; omega))) | (refine WP_cond rfl (fun h => ?_) (fun h => ?_) <;> (fail_if_success (have hh : true = true := h)) <;> (fail_if_success (have hh : false = false := h)) <;> (try simp only [decide_eq_true_eq, decide_eq_false_iff_not, Bool.not_eq_true', Bool.not_eq_false', Int.not_lt, Int.not_le] at h) <;> (try (exfalso; omega))))
        all_goals exact ⟨_, ⟨rfl, rfl, rfl, rfl, rfl, trivial⟩, hg, S⟩
    clear S hs
    rintro σ w1 ⟨g, hs, hg, S⟩
    refine WP_has hs ?_
    have hf3 := hg.bound (by omega : mid ≤ N) hf2
    have T2 := two_r q1 q2 q3 q4 q5 hT (g1 := g) (fun k hk => hg.out k (.inr hk))
    by_cases hR : mid < e ∧ e < b
    · repeat' (first | refine WP_seq ?_ | refine WP_region ?_ | refine wl_nil ?_ | refine then_normal ?_ | (refine g_move ?_; refine st_move rfl ?_) | (refine g_pick ?_; refine st_pickT rfl rfl ?_) | (refine g_b_lss ?_; refine st_val rfl (r_lss rfl rfl) ?_) | (refine wl_split rfl rfl (fun h => ?_) (fun h => ?_) <;> (fail_if_success (have hh : true = true := h)) <;> (fail_if_success (have hh : false = false := h)) <;> (try simp only [decide_eq_true_eq, decide_eq_false_iff_not, Bool.not_eq_true', Bool.not_eq_false', Int.not_lt, Int.not_le] at h) <;> (try (exfalso; omega))) | (refine WP_cond rfl (fun h => ?_) (fun h => ?_) <;> (fail_if_success (have hh : true = true := h)) <;> (fail_if_success (have hh : false = false := h)) <;> (try simp only [decide_eq_true_eq, decide_eq_false_iff_not, Bool.not_eq_true', Bool.not_eq_false', Int.not_lt, Int.not_le] at h) <;> (try (exfalso; omega))))
      refine st_callW rfl (r_call5 rfl rfl rfl rfl rfl rfl) (ih (by omega) S rfl rfl rfl hR.1 hR.2 (by omega) hN hf3 T2) ?_
      rintro u w ⟨g2, hg2, S'⟩
      replace S := S'; clear S'
      refine wl_nil ?_
      exact end0 rfl ⟨_, rfl, g2, sym_fits (cS_sw sp) q1 q2 q3 q4 q5 hT K1 K2 hg hg2, S⟩
    · have hg2 : Srt (cS sp) g g mid b := by
        refine Srt.same ?_
        by_cases hx : mid < e
        · have : b = e := by omega
          rw [this]; exact T2.l
        · have : e = mid := by omega
          have h := T2.r
          rw [this] at h; exact h
      refine WP_mono (Q := fun e σ w1 => e = .normal ∧ St w0 w1 (rowT v g N :: .var bc 64 [sv] :: ex)) (fun e' σ' w' h => ?_) ?_
      · obtain ⟨rfl, S'⟩ := h
        exact end0 rfl ⟨_, rfl, g, sym_fits (cS_sw sp) q1 q2 q3 q4 q5 hT K1 K2 hg hg2, S'⟩
      · repeat' (first | refine WP_seq ?_ | refine WP_region ?_ | refine wl_nil ?_ | refine then_normal ?_ | refine WP_skip ?_ | refine WP_condF rfl ?_ | (refine g_guard ?_; refine st_off rfl ?_) | (refine g_move ?_; refine st_move rfl ?_) | (refine g_pick ?_; first | refine st_pickT rfl rfl ?_ | refine st_pickF rfl rfl ?_) | (refine g_b_lss ?_; refine st_val rfl (r_lss rfl rfl) ?_) | (refine wl_split rfl rfl (fun h => ?_) (fun h => ?_) <;> (fail_if_success (have hh : true = true := h)) <;> (fail_if_success (have hh : false = false := h)) <;> (try simp only [decide_eq_true_eq, decide_eq_false_iff_not, Bool.not_eq_true', Bool.not_eq_false', Int.not_lt, Int.not_le] at h) <;> (try (exfalso; omega))) | (refine WP_cond rfl (fun h => ?_) (fun h => ?_) <;> (fail_if_success (have hh : true = true := h)) <;> (fail_if_success (have hh : false = false := h)) <;> (try simp only [decide_eq_true_eq, decide_eq_false_iff_not, Bool.not_eq_true', Bool.not_eq_false', Int.not_lt, Int.not_le] at h) <;> (try (exfalso; omega))))
        all_goals exact ⟨rfl, S⟩
end Go.Proofs.YtgdmaadikcnagaaDoor
namespace Go.Proofs.YtgdmaadikcnagaaDoor
open Go Go.Gx Go.RowKit
set_option linter.unusedVariables false
set_option linter.unusedSimpArgs false

/-- A sorted part that holds the numbers of its places. -/
structure Run (c : Int → Int → Bool) (g : Nat → Int) (a b : Nat) : Prop where
  pw : (seg g a b).Pairwise (RS c)
  own : ∀ k, a ≤ k → k < b → (a : Int) ≤ g k ∧ g k < b
theorem Run.congr {c : Int → Int → Bool} {g g' : Nat → Int} {a b : Nat} (h : Run c g a b) (he : ∀ k, a ≤ k → k < b → g' k = g k) : Run c g' a b :=
  ⟨by rw [seg_congr he]; exact h.pw, fun k p q => by rw [he k p q]; exact h.own k p q⟩
theorem Run.two {c : Int → Int → Bool} {g : Nat → Int} {a m b : Nat} (h1 : Run c g a m) (h2 : Run c g m b) : Two c g a m b :=
  ⟨h1.pw, h2.pw, fun k k' p q p' q' => by have := (h1.own k p q).2; have := (h2.own k' p' q').1; omega⟩
theorem Srt.run {c : Int → Int → Bool} {f g : Nat → Int} {a b : Nat} (h : Srt c f g a b) (hf : ∀ k, a ≤ k → k < b → (a : Int) ≤ f k ∧ f k < b) : Run c g a b :=
  ⟨h.pw, fun k p q => by
    obtain ⟨k', p', q', e⟩ := mem_seg.1 (h.perm.mem_iff.1 (mem_seg.2 ⟨k, p, q, rfl⟩))
    rw [e]; exact hf k' p' q'⟩
theorem Run.merge {c : Int → Int → Bool} {g g' : Nat → Int} {a m b : Nat} (h1 : Run c g a m) (h2 : Run c g m b) (ham : a ≤ m) (hmb : m ≤ b) (h : Srt c g g' a b) : Run c g' a b :=
  h.run fun k p q => by
    by_cases hk : k < m
    · have := h1.own k p hk; omega
    · have := h2.own k (by omega) q; omega
theorem Srt.all {c : Int → Int → Bool} {f g : Nat → Int} {a b N : Nat} (h : Srt c f g a b) (hab : a ≤ b) (hb : b ≤ N) : (seg g 0 N).Perm (seg f 0 N) := by
  rw [seg_append (f := g) (Nat.zero_le a) (by omega : a ≤ N), seg_append (f := g) hab hb, seg_append (f := f) (Nat.zero_le a) (by omega : a ≤ N), seg_append (f := f) hab hb]
  rw [seg_congr (f := g) (g := f) (a := 0) fun k p q => h.out k (.inl q), seg_congr (f := g) (g := f) (a := b) fun k p q => h.out k (.inr p)]
  exact List.Perm.append_left _ (h.perm.append_right _)
abbrev idf : Nat → Int := fun k => (k : Int)
theorem perm_own {g : Nat → Int} {N : Nat} (h : (seg g 0 N).Perm (seg idf 0 N)) : ∀ k, k < N → 0 ≤ g k ∧ g k < N := fun k hk => by
  obtain ⟨k', p', q', e⟩ := mem_seg.1 (h.mem_iff.1 (mem_seg.2 ⟨k, by omega, hk, rfl⟩))
  rw [e]; simp only [idf]; omega
/-- RunsO of a length, up to a place. -/
inductive FrO (c : Int → Int → Bool) (g : Nat → Int) (s : Nat) : Nat → Prop
  | zero : FrO c g s 0
  | snoc {a : Nat} : FrO c g s a → Run c g a (a + s) → FrO c g s (a + s)
/-- RunsO of a length, from a place on; the last one may be shorter. -/
inductive RunsO (c : Int → Int → Bool) (g : Nat → Int) (s N : Nat) : Nat → Prop
  | done {a : Nat} : N ≤ a → RunsO c g s N a
  | next {a : Nat} : Run c g a (min (a + s) N) → RunsO c g s N (a + s) → RunsO c g s N a
theorem FrO.congr {c : Int → Int → Bool} {g g' : Nat → Int} {s a : Nat} (h : FrO c g s a) (he : ∀ k, k < a → g' k = g k) : FrO c g' s a := by
  induction h with
  | zero => exact .zero
  | snoc h hr ih => exact .snoc (ih fun k hk => he k (by omega)) (hr.congr fun k p q => he k q)
theorem RunsO.congr {c : Int → Int → Bool} {g g' : Nat → Int} {s N a : Nat} (h : RunsO c g s N a) (he : ∀ k, a ≤ k → g' k = g k) : RunsO c g' s N a := by
  induction h with
  | done h => exact .done h
  | next h hr ih => exact .next (h.congr fun k p q => he k p) (ih fun k hk => he k (by omega))
theorem FrO.runs {c : Int → Int → Bool} {g : Nat → Int} {s N a : Nat} (h : FrO c g s a) (ha : a ≤ N) (hr : RunsO c g s N a) : RunsO c g s N 0 := by
  induction h with
  | zero => exact hr
  | snoc h h1 ih => exact ih (by omega) (.next (by rw [Nat.min_eq_left ha]; exact h1) hr)
theorem RunsO.inv {c : Int → Int → Bool} {g : Nat → Int} {s N a : Nat} (h : RunsO c g s N a) (ha : a < N) : Run c g a (min (a + s) N) ∧ RunsO c g s N (a + s) := by
  cases h with
  | done h => exact absurd h (by omega)
  | next h1 h2 => exact ⟨h1, h2⟩
theorem sym_all {sp : List GSpot} {sv : Value} {w0 : World} (hr : Rd fGSpot.ty w0 sv sp) (n : Nat) : SymP sp sv w0 n := by
  induction n with
  | zero => intro v bc f N a m b x y z ex w hn S hx hy hz ham hmb; omega
  | succ n ih => exact sym_step hr n ih
theorem sym_run {sp : List GSpot} {sv v : Value} {bc : Nat} {f : Nat → Int} {N a m b : Nat} {x y z : Int} {ex : List Ob} {w0 w : World} (S : St w0 w (rowT v f N :: .var bc 64 [sv] :: ex)) (hr : Rd fGSpot.ty w0 sv sp) (hx : x = a) (hy : y = m) (hz : z = b) (ham : a < m) (hmb : m < b) (hb : b ≤ N) (hN : N ≤ 1000000000)
    (hf : ∀ k, k < N → 0 ≤ f k ∧ f k < sp.length) (hT : Two (cS sp) f a m b) :
    CallsW Tryd.prog 102 #[v, .int .i64 x, .int .i64 y, .int .i64 z, cv51 bc] w (fun _ w' => ∃ g, Srt (cS sp) f g a b ∧ St w0 w' (rowT v g N :: .var bc 64 [sv] :: ex)) :=
  sym_all hr (b - a) (Nat.le_refl _) S hx hy hz ham hmb hb hN hf hT
theorem ins_run0 {sp : List GSpot} {sv v : Value} {bc : Nat} {f : Nat → Int} {N a b : Nat} {x y : Int} {ex : List Ob} {w0 w : World} (S : St w0 w (rowT v f N :: .var bc 64 [sv] :: ex)) (hr : Rd fGSpot.ty w0 sv sp) (hx : x = a) (hy : y = b) (hab : a ≤ b) (hb : b ≤ N) (hN : N ≤ 1000000000)
    (hf : ∀ k, k < N → 0 ≤ f k ∧ f k < sp.length) (hasc : ∀ k k', a ≤ k → k < k' → k' < b → f k < f k') :
    CallsW Tryd.prog 101 #[v, .int .i64 x, .int .i64 y, cv51 bc] w (fun _ w' => ∃ g, Srt (cS sp) f g a b ∧ St w0 w' (rowT v g N :: .var bc 64 [sv] :: ex)) := by
  by_cases hlt : a < b
  · exact ins_run S hr hx hy hlt hb hN hf hasc
  have e : b = a := by omega
  subst e hx hy
  refine CallsW.mk ?_
  refine calls_enter Tryd.func101 rfl (by intro _ h; first | exact nomatch h.1 | (obtain ⟨_, h, _⟩ := h; exact nomatch h)) Tryd.ntmps101 rfl ?_
  repeat' (first | refine WP_seq ?_ | refine WP_region ?_ | refine wl_nil ?_ | refine then_normal ?_ | refine WP_block ?_ | (refine g_move ?_; refine st_move rfl ?_) | (refine g_assign ?_; refine st_assign rfl ?_) | (refine g_b_add ?_; (refine st_val rfl (r_addN rfl rfl ?_ ?_) ?_; (first | omega | (simp <;> omega)); (first | omega | (simp <;> omega)))))
  refine WP_loop (fun k σ w1 => ∃ (p : Int), Has σ [(2, .int .i64 (b : Int)), (8, .int .i64 p)] ∧ St w0 w1 (rowT v f N :: .var bc 64 [sv] :: ex) ∧ p = (b : Int) + 1 ∧ k = 0) 0 ⟨_, ⟨rfl, rfl, trivial⟩, S, by omega, rfl⟩ ?_
  clear S
  rintro k σ w1 ⟨p, hs, S, hp, rfl⟩
  refine WP_has hs ?_
  repeat' (first | refine WP_seq ?_ | refine WP_region ?_ | refine wl_nil ?_ | refine then_normal ?_ | (refine g_move ?_; refine st_move rfl ?_) | (refine g_b_lss ?_; refine st_val rfl (r_lss rfl rfl) ?_))
  refine WP_cond rfl (fun h => absurd (of_decide_eq_true h) (by omega)) (fun h => ?_)
  refine WP_exit ?_
  refine then_exit ?_
  refine then_exit ?_
  refine inB_here ?_
  exact end0 rfl ⟨_, rfl, f, ⟨fun _ _ => rfl, List.Perm.refl _, by rw [seg_nil (Nat.le_refl _)]; exact List.Pairwise.nil⟩, S⟩
end Go.Proofs.YtgdmaadikcnagaaDoor
namespace Go.Proofs.YtgdmaadikcnagaaDoor
open Go Go.Gx Go.RowKit
set_option linter.unusedVariables false
set_option linter.unusedSimpArgs false

set_option maxHeartbeats 1000000 in
theorem stable_run {sp : List GSpot} {sv v : Value} {bc N : Nat} {x : Int} {ex : List Ob} {w0 w : World} (S : St w0 w (rowT v idf N :: .var bc 64 [sv] :: ex)) (hr : Rd fGSpot.ty w0 sv sp) (hx : x = N) (hlen : N = sp.length) (hN : N ≤ 1000000000) :
    CallsW Tryd.prog 83 #[v, .int .i64 x, cv51 bc] w (fun _ w' => ∃ g, (tab g N).Perm (tab idf N) ∧ (tab g N).Pairwise (RS (cS sp)) ∧ St w0 w' (rowT v g N :: .var bc 64 [sv] :: ex)) := by
  subst hx
  refine CallsW.mk ?_
  refine calls_enter Tryd.func83 rfl (by intro _ h; first | exact nomatch h.1 | (obtain ⟨_, h, _⟩ := h; exact nomatch h)) Tryd.ntmps83 rfl ?_
  repeat' (first | refine WP_seq ?_ | refine WP_region ?_ | refine wl_nil ?_ | refine then_normal ?_ | refine WP_block ?_ | (refine g_move ?_; refine st_move rfl ?_) | (refine g_assign ?_; refine st_assign rfl ?_))
  refine WP_loop (fun k σ w1 => ∃ (a : Nat) (p q : Int) (g : Nat → Int), Has σ [(0, v), (1, .int .i64 (N : Int)), (2, cv51 bc), (6, .int .i64 20), (7, .int .i64 p), (8, .int .i64 q)] ∧ St w0 w1 (rowT v g N :: .var bc 64 [sv] :: ex) ∧ p = a ∧ q = (a : Int) + 20 ∧ a ≤ N ∧ FrO (cS sp) g 20 a ∧ (∀ k, a ≤ k → g k = k) ∧ (seg g 0 N).Perm (seg idf 0 N) ∧ k = N - a) N ⟨0, _, _, idf, ⟨rfl, rfl, rfl, rfl, rfl, rfl, trivial⟩, S, rfl, rfl, by omega, .zero, fun k _ => rfl, List.Perm.refl _, rfl⟩ ?_
  clear S
  rintro k σ w1 ⟨a, p, q, g, hs, S, hp, hq, haN, hfr, hid, hpm, hk⟩
  refine WP_has hs ?_
  have hown := perm_own hpm
  rw [hlen] at hown
  by_cases hlt : a + 20 ≤ N
  · repeat' (first | refine WP_seq ?_ | refine WP_region ?_ | refine wl_nil ?_ | refine then_normal ?_ | refine WP_skip ?_ | refine WP_block ?_ | (refine g_move ?_; refine st_move rfl ?_) | (refine g_b_leq ?_; refine st_val rfl (r_leq rfl rfl) ?_) | (refine WP_cond rfl (fun h => ?_) (fun h => ?_) <;> (fail_if_success (have hh : true = true := h)) <;> (fail_if_success (have hh : false = false := h)) <;> (try simp only [decide_eq_true_eq, decide_eq_false_iff_not, Bool.not_eq_true', Bool.not_eq_false', Int.not_lt, Int.not_le] at h) <;> (try (exfalso; omega))))
    refine st_callW rfl (r_call4 rfl rfl rfl rfl rfl) (ins_run0 (a := a) (b := a + 20) S hr (by omega) (by omega) (by omega) hlt hN (by rw [hlen]; exact hown) (fun k k' p q r => by rw [hid k (by omega), hid k' (by omega)]; omega)) ?_
    rintro u w ⟨g', hg, S'⟩
    replace S := S'; clear S'
    repeat' (first | refine WP_seq ?_ | refine WP_region ?_ | refine wl_nil ?_ | refine then_normal ?_ | refine inB_normal ?_ | (refine g_move ?_; refine st_move rfl ?_) | (refine g_assign ?_; refine st_assign rfl ?_) | (refine g_b_add ?_; (refine st_val rfl (r_addN rfl rfl ?_ ?_) ?_; (first | omega | (simp <;> omega)); (first | omega | (simp <;> omega)))))
    refine ⟨⟨_, ?_, a + 20, _, _, g', ⟨rfl, rfl, rfl, rfl, rfl, rfl, trivial⟩, S, by omega, by omega, by omega, .snoc (hfr.congr fun k hk => hg.out k (.inl hk)) (hg.run fun k p q => by rw [hid k p]; omega), fun k hk => by rw [hg.out k (.inr hk)]; exact hid k (by omega), (hg.all (by omega) hlt).trans hpm, rfl⟩⟩
    omega
  repeat' (first | refine WP_seq ?_ | refine WP_region ?_ | refine wl_nil ?_ | refine then_normal ?_ | (refine g_move ?_; refine st_move rfl ?_) | (refine g_b_leq ?_; refine st_val rfl (r_leq rfl rfl) ?_))
  refine WP_cond rfl (fun h => absurd (of_decide_eq_true h) (by omega)) (fun h => ?_)
  refine WP_exit ?_
  refine then_exit ?_
  refine then_exit ?_
  refine inB_here ?_
  refine then_normal ?_
  repeat' (first | refine WP_seq ?_ | refine WP_region ?_ | (refine g_move ?_; refine st_move rfl ?_))
  refine st_callW rfl (r_call4 rfl rfl rfl rfl rfl) (ins_run0 (a := a) (b := N) S hr (by omega) (by omega) haN (Nat.le_refl _) hN (by rw [hlen]; exact hown) (fun k k' p q r => by rw [hid k (by omega), hid k' (by omega)]; omega)) ?_
  rintro u w ⟨g', hg, S'⟩
  replace S := S'; clear S'
  have hruns : RunsO (cS sp) g' 20 N 0 := (hfr.congr fun k hk => hg.out k (.inl hk)).runs haN (.next (by rw [Nat.min_eq_right (by omega)]; exact hg.run fun k p q => by rw [hid k p]; omega) (.done (by omega)))
  have hpm' := (hg.all haN (Nat.le_refl _)).trans hpm
  clear hpm hfr hid hown hg
  repeat' (first | refine wl_nil ?_ | refine then_normal ?_ | refine WP_block ?_)
  refine WP_loop (fun k σ w1 => ∃ (s : Nat) (p : Int) (g : Nat → Int), Has σ [(0, v), (1, .int .i64 (N : Int)), (2, cv51 bc), (6, .int .i64 p)] ∧ St w0 w1 (rowT v g N :: .var bc 64 [sv] :: ex) ∧ p = s ∧ 20 ≤ s ∧ s ≤ 2 * N + 20 ∧ RunsO (cS sp) g s N 0 ∧ (seg g 0 N).Perm (seg idf 0 N) ∧ k = 2 * N + 20 - s) (2 * N) ⟨20, _, g', ⟨rfl, rfl, rfl, rfl, trivial⟩, S, rfl, by omega, by omega, hruns, hpm', by omega⟩ ?_
  clear S hs hruns hpm'
  rintro k σ w1 ⟨s, p, g, hs, S, hp, h20, hsN, hruns, hpm, hk⟩
  refine WP_has hs ?_
  by_cases hlt : s < N
  · repeat' (first | refine WP_seq ?_ | refine WP_region ?_ | refine wl_nil ?_ | refine then_normal ?_ | refine WP_skip ?_ | refine WP_block ?_ | (refine g_move ?_; refine st_move rfl ?_) | (refine g_assign ?_; refine st_assign rfl ?_) | (refine g_b_mul ?_; (refine st_val rfl (r_mulN rfl rfl ?_ ?_) ?_; (first | omega | (simp <;> omega)); (first | omega | (simp <;> omega)))) | (refine g_b_lss ?_; refine st_val rfl (r_lss rfl rfl) ?_) | (refine WP_cond rfl (fun h => ?_) (fun h => ?_) <;> (fail_if_success (have hh : true = true := h)) <;> (fail_if_success (have hh : false = false := h)) <;> (try simp only [decide_eq_true_eq, decide_eq_false_iff_not, Bool.not_eq_true', Bool.not_eq_false', Int.not_lt, Int.not_le] at h) <;> (try (exfalso; omega))))
    refine WP_loop (fun k σ w1 => ∃ (a : Nat) (p q r : Int) (g : Nat → Int), Has σ [(0, v), (1, .int .i64 (N : Int)), (2, cv51 bc), (6, .int .i64 r), (7, .int .i64 p), (8, .int .i64 q)] ∧ St w0 w1 (rowT v g N :: .var bc 64 [sv] :: ex) ∧ r = s ∧ p = a ∧ q = (a : Int) + 2 * s ∧ a ≤ N ∧ FrO (cS sp) g (s + s) a ∧ RunsO (cS sp) g s N a ∧ (seg g 0 N).Perm (seg idf 0 N) ∧ k = N - a) N ⟨0, _, _, _, g, ⟨rfl, rfl, rfl, rfl, rfl, rfl, trivial⟩, S, by omega, by omega, by omega, by omega, .zero, hruns, hpm, rfl⟩ ?_
    clear S hs hruns hpm
    rintro k' σ w1 ⟨a, p, q, r, g, hs, S, hr', hp, hq, haN, hfr, hruns, hpm, hk'⟩
    refine WP_has hs ?_
    have hown := perm_own hpm
    rw [hlen] at hown
    by_cases hle : a + (s + s) ≤ N
    · obtain ⟨r1, hruns⟩ := hruns.inv (by omega)
      obtain ⟨r2, hruns⟩ := hruns.inv (by omega)
      rw [Nat.min_eq_left (by omega)] at r1
      rw [Nat.min_eq_left (by omega)] at r2
      repeat' (first | refine WP_seq ?_ | refine WP_region ?_ | refine wl_nil ?_ | refine then_normal ?_ | refine WP_skip ?_ | refine WP_block ?_ | (refine g_move ?_; refine st_move rfl ?_) | (refine g_b_add ?_; (refine st_val rfl (r_addN rfl rfl ?_ ?_) ?_; (first | omega | (simp <;> omega)); (first | omega | (simp <;> omega)))) | (refine g_b_leq ?_; refine st_val rfl (r_leq rfl rfl) ?_) | (refine WP_cond rfl (fun h => ?_) (fun h => ?_) <;> (fail_if_success (have hh : true = true := h)) <;> (fail_if_success (have hh : false = false := h)) <;> (try simp only [decide_eq_true_eq, decide_eq_false_iff_not, Bool.not_eq_true', Bool.not_eq_false', Int.not_lt, Int.not_le] at h) <;> (try (exfalso; omega))))
      refine st_callW rfl (r_call5 rfl rfl rfl rfl rfl rfl) (sym_run (a := a) (m := a + s) (b := a + s + s) S hr (by omega) (by omega) (by omega) (by omega) (by omega) (by omega) hN (by rw [hlen]; exact hown) (r1.two r2)) ?_
      rintro u w ⟨g', hg, S'⟩
      replace S := S'; clear S'
      have hm := r1.merge r2 (by omega) (by omega) hg
      repeat' (first | refine WP_seq ?_ | refine WP_region ?_ | refine wl_nil ?_ | refine then_normal ?_ | refine inB_normal ?_ | (refine g_move ?_; refine st_move rfl ?_) | (refine g_assign ?_; refine st_assign rfl ?_) | (refine g_b_add ?_; (refine st_val rfl (r_addN rfl rfl ?_ ?_) ?_; (first | omega | (simp <;> omega)); (first | omega | (simp <;> omega)))) | (refine g_b_mul ?_; (refine st_val rfl (r_mulN rfl rfl ?_ ?_) ?_; (first | omega | (simp <;> omega)); (first | omega | (simp <;> omega)))))
      refine ⟨⟨_, ?_, a + (s + s), _, _, _, g', ⟨rfl, rfl, rfl, rfl, rfl, rfl, trivial⟩, S, by omega, by omega, by omega, by omega, .snoc (hfr.congr fun k hk => hg.out k (.inl hk)) (by rw [← Nat.add_assoc]; exact hm), by rw [← Nat.add_assoc]; exact hruns.congr fun k hk => hg.out k (.inr hk), (hg.all (by omega) (by omega)).trans hpm, rfl⟩⟩
      omega
    repeat' (first | refine WP_seq ?_ | refine WP_region ?_ | refine wl_nil ?_ | refine then_normal ?_ | (refine g_move ?_; refine st_move rfl ?_) | (refine g_b_leq ?_; refine st_val rfl (r_leq rfl rfl) ?_))
    refine WP_cond rfl (fun h => absurd (of_decide_eq_true h) (by omega)) (fun h => ?_)
    refine WP_exit ?_
    refine then_exit ?_
    refine then_exit ?_
    refine inB_here ?_
    refine then_normal ?_
    by_cases hmN : a + s < N
    · obtain ⟨r1, hruns⟩ := hruns.inv (by omega)
      obtain ⟨r2, hruns⟩ := hruns.inv (by omega)
      rw [Nat.min_eq_left (by omega)] at r1
      rw [Nat.min_eq_right (by omega)] at r2
      repeat' (first | refine WP_seq ?_ | refine WP_region ?_ | refine wl_nil ?_ | refine then_normal ?_ | (refine g_move ?_; refine st_move rfl ?_) | (refine g_assign ?_; refine st_assign rfl ?_) | (refine g_b_add ?_; (refine st_val rfl (r_addN rfl rfl ?_ ?_) ?_; (first | omega | (simp <;> omega)); (first | omega | (simp <;> omega)))) | (refine g_b_lss ?_; refine st_val rfl (r_lss rfl rfl) ?_) | (refine WP_cond rfl (fun h => ?_) (fun h => ?_) <;> (fail_if_success (have hh : true = true := h)) <;> (fail_if_success (have hh : false = false := h)) <;> (try simp only [decide_eq_true_eq, decide_eq_false_iff_not, Bool.not_eq_true', Bool.not_eq_false', Int.not_lt, Int.not_le] at h) <;> (try (exfalso; omega))))
      refine st_callW rfl (r_call5 rfl rfl rfl rfl rfl rfl) (sym_run (a := a) (m := a + s) (b := N) S hr (by omega) (by omega) (by omega) (by omega) (by omega) (by omega) hN (by rw [hlen]; exact hown) (r1.two r2)) ?_
      rintro u w ⟨g', hg, S'⟩
      replace S := S'; clear S'
      have hm := r1.merge r2 (by omega) (by omega) hg
      repeat' (first | refine WP_region ?_ | refine wl_nil ?_ | refine then_normal ?_ | refine inB_normal ?_ | (refine g_move ?_; refine st_move rfl ?_) | (refine g_assign ?_; refine st_assign rfl ?_) | (refine g_b_mul ?_; (refine st_val rfl (r_mulN rfl rfl ?_ ?_) ?_; (first | omega | (simp <;> omega)); (first | omega | (simp <;> omega)))))
      refine ⟨⟨_, ?_, s + s, _, g', ⟨rfl, rfl, rfl, rfl, trivial⟩, S, by omega, by omega, by omega, (hfr.congr fun k hk => hg.out k (.inl hk)).runs haN (.next (by rw [Nat.min_eq_right (by omega)]; exact hm) (.done (by omega))), (hg.all (by omega) (by omega)).trans hpm, rfl⟩⟩
      omega
    · have hlast : RunsO (cS sp) g (s + s) N a := by
        by_cases haN' : a < N
        · obtain ⟨r1, _⟩ := hruns.inv haN'
          rw [Nat.min_eq_right (by omega)] at r1
          exact .next (by rw [Nat.min_eq_right (by omega)]; exact r1) (.done (by omega))
        · exact .done (by omega)
      repeat' (first | refine WP_seq ?_ | refine WP_region ?_ | refine wl_nil ?_ | refine then_normal ?_ | refine inB_normal ?_ | refine WP_skip ?_ | (refine g_move ?_; refine st_move rfl ?_) | (refine g_assign ?_; refine st_assign rfl ?_) | (refine g_b_add ?_; (refine st_val rfl (r_addN rfl rfl ?_ ?_) ?_; (first | omega | (simp <;> omega)); (first | omega | (simp <;> omega)))) | (refine g_b_mul ?_; (refine st_val rfl (r_mulN rfl rfl ?_ ?_) ?_; (first | omega | (simp <;> omega)); (first | omega | (simp <;> omega)))) | (refine g_b_lss ?_; refine st_val rfl (r_lss rfl rfl) ?_) | (refine WP_cond rfl (fun h => ?_) (fun h => ?_) <;> (fail_if_success (have hh : true = true := h)) <;> (fail_if_success (have hh : false = false := h)) <;> (try simp only [decide_eq_true_eq, decide_eq_false_iff_not, Bool.not_eq_true', Bool.not_eq_false', Int.not_lt, Int.not_le] at h) <;> (try (exfalso; omega))))
      refine ⟨⟨_, ?_, s + s, _, g, ⟨rfl, rfl, rfl, rfl, trivial⟩, S, by omega, by omega, by omega, hfr.runs haN hlast, hpm, rfl⟩⟩
      omega
  repeat' (first | refine WP_seq ?_ | refine WP_region ?_ | refine wl_nil ?_ | refine then_normal ?_ | (refine g_move ?_; refine st_move rfl ?_) | (refine g_b_lss ?_; refine st_val rfl (r_lss rfl rfl) ?_))
  refine WP_cond rfl (fun h => absurd (of_decide_eq_true h) (by omega)) (fun h => ?_)
  refine WP_exit ?_
  refine then_exit ?_
  refine then_exit ?_
  refine inB_here ?_
  refine end0 rfl ⟨_, rfl, g, ?_, ?_, S⟩
  · rw [← seg_tab, ← seg_tab]; exact hpm
  · rw [← seg_tab]
    by_cases h0 : 0 < N
    · obtain ⟨r1, _⟩ := hruns.inv h0
      rw [Nat.min_eq_right (by omega)] at r1
      exact r1.pw
    · rw [seg_nil (by omega)]; exact List.Pairwise.nil
theorem sort_run {sp : List GSpot} {sv v : Value} {bc N : Nat} {ex : List Ob} {w0 w : World} (S : St w0 w (rowT v idf N :: .var bc 64 [sv] :: ex)) (hr : Rd fGSpot.ty w0 sv sp) (hlen : N = sp.length) (hN : N ≤ 1000000000) :
    CallsW Tryd.prog 60 #[v, cv51 bc] w (fun _ w' => ∃ g, (tab g N).Perm (tab idf N) ∧ (tab g N).Pairwise (RS (cS sp)) ∧ St w0 w' (rowT v g N :: .var bc 64 [sv] :: ex)) := by
  refine CallsW.mk ?_
  have hl := @tab_len idf N
  obtain ⟨A, c, hz⟩ := (S.rdRow (D := fInt .i64) (i := 0) rfl).len; subst hz
  refine calls_enter Tryd.func60 rfl (by intro _ h; first | exact nomatch h.1 | (obtain ⟨_, h, _⟩ := h; exact nomatch h)) Tryd.ntmps60 rfl ?_
  repeat' (first | refine WP_region ?_ | (refine g_move ?_; refine st_move rfl ?_) | (refine g_c_len ?_; refine st_val rfl (r_lenSlice rfl) ?_))
  refine st_callW rfl (r_call3 rfl rfl rfl rfl) (stable_run (N := N) (x := ((tab idf N).length : Int)) S hr (by omega) hlen hN) ?_
  rintro u w h
  refine wl_nil ?_
  exact end0 rfl ⟨_, rfl, h⟩
end Go.Proofs.YtgdmaadikcnagaaDoor
namespace Go.Proofs.YtgdmaadikcnagaaDoor
open Go Go.Gx Go.RowKit
set_option linter.unusedVariables false
set_option linter.unusedSimpArgs false

def inR (n lo hi : Int) : Bool := decide (lo ≤ n ∧ n ≤ hi)
theorem btw_spec {n lo hi : Int} {w : World} : CallsV Tryd.prog 65 #[.int .i64 n, .int .i64 lo, .int .i64 hi] w (.bool (inR n lo hi)) := by
  have S := St.start w
  refine CallsV.mk ?_
  refine calls_enter Tryd.func65 rfl (by intro _ h; first | exact nomatch h.1 | (obtain ⟨_, h, _⟩ := h; exact nomatch h)) Tryd.ntmps65 rfl ?_
  repeat' (first | refine WP_seq ?_ | refine WP_region ?_ | refine wl_nil ?_ | refine then_normal ?_ | refine WP_ret ?_ | (refine g_guard ?_; refine st_off rfl ?_) | (refine g_move ?_; refine st_move rfl ?_) | (refine g_assign ?_; refine st_assign rfl ?_) | (refine g_pick ?_; first | refine st_pickT rfl rfl ?_ | refine st_pickF rfl rfl ?_) | (refine g_b_leq ?_; refine st_val rfl (r_leq rfl rfl) ?_) | (refine g_b_geq ?_; refine st_val rfl (r_geq rfl rfl) ?_) | (refine wl_split rfl rfl (fun h => ?_) (fun h => ?_) <;> (fail_if_success (have hh : true = true := h)) <;> (fail_if_success (have hh : false = false := h)) <;> (try simp only [decide_eq_true_eq, decide_eq_false_iff_not, Bool.not_eq_true', Bool.not_eq_false', Int.not_lt, Int.not_le] at h) <;> (try (exfalso; omega))))
  all_goals (refine end1 rfl rfl ⟨rb ?_, S.below⟩; simp [inR]; try omega)
/-- The days of a week. -/
abbrev wkL (k : GWeek) : List Int := [k.a0, k.a1, k.a2, k.a3, k.a4, k.a5, k.a6]
def okH (x : Int) : Bool := decide (0 ≤ x ∧ x ≤ 16777215)
def okW (k : GWeek) : Bool := (wkL k).all okH
theorem wk_get {k : GWeek} {i : Nat} (h : i < 7) : (k.enc.toArray)[i]? = some (.int .i64 (nth (wkL k) (i : Int))) := by
  match i, h with
  | 0, _ => rfl
  | 1, _ => rfl
  | 2, _ => rfl
  | 3, _ => rfl
  | 4, _ => rfl
  | 5, _ => rfl
  | 6, _ => rfl
theorem wk_get' {k : GWeek} {i : Int} (h0 : 0 ≤ i) (h : i < 7) : (k.enc.toArray)[i.toNat]? = some (.int .i64 (nth (wkL k) i)) := by
  have := wk_get (k := k) (i := i.toNat) (by omega)
  rwa [Int.toNat_of_nonneg h0] at this
theorem nth_mem {α : Type} [Inhabited α] {l : List α} {i : Int} (h0 : 0 ≤ i) (h : i < l.length) : nth l i ∈ l := List.mem_of_getElem? (nth_get h0 h)
theorem okW_of {k : GWeek} (h : ∀ j : Int, 0 ≤ j → j < 7 → okH (nth (wkL k) j) = true) : okW k = true := by
  unfold okW
  rw [List.all_eq_true]
  intro x hx
  obtain ⟨j, hj⟩ := List.getElem?_of_mem hx
  have hlt : j < 7 := by have := (List.getElem?_eq_some_iff.1 hj).1; simpa using this
  have h1 := nth_get (l := wkL k) (i := (j : Int)) (by omega) (by show (j : Int) < 7; omega)
  rw [Int.toNat_natCast, hj] at h1
  cases h1; exact h j (by omega) (by omega)
theorem okW_no {k : GWeek} {j : Int} (h0 : 0 ≤ j) (h1 : j < 7) (h : okH (nth (wkL k) j) = false) : okW k = false := by
  unfold okW
  rw [List.all_eq_false]
  exact ⟨_, nth_mem h0 (by show j < 7; exact h1), by rw [h]; decide⟩
theorem okW_at {k : GWeek} (h : okW k = true) {j : Int} (h0 : 0 ≤ j) (h1 : j < 7) : 0 ≤ nth (wkL k) j ∧ nth (wkL k) j ≤ 16777215 := by
  have := List.all_eq_true.1 h _ (nth_mem (l := wkL k) h0 (by show j < 7; exact h1))
  exact of_decide_eq_true this
theorem r_loadWk {P : Program} {ρ : Operand → Value} {w0 w : World} {d : Option Tmp} {ty : TypeId} {pos : String} {af : Array Edge} {g : Option (Nat × Bool)} {T : TypeId} {s : Operand} {os : List Ob} {i b : Nat} {T' : TypeId} {k : GWeek} {j : Int} [TF P T false 1] (S : St w0 w os) (hi : os[i]? = some (.var b T' k.enc)) (h1 : ρ s = .pointer (some ⟨b, 0 + j.toNat * 1, none⟩)) (h0 : 0 ≤ j) (h : j < 7) :
    Runs P ρ ⟨d, .load T s, ty, pos, af, g⟩ w (.ok (.value (.int .i64 (nth (wkL k) j))) w) :=
  r_loadVar (o := 0 + j.toNat * 1) S hi h1 (by have := wk_get' (k := k) h0 h; rw [show 0 + j.toNat * 1 = j.toNat by omega]; simpa using this)
theorem validW_spec {k : GWeek} {w0 : World} : CallsV Tryd.prog 99 #[.agg k.enc.toArray] w0 (.bool (okW k)) := by
  have S := St.start w0
  refine CallsV.mk ?_
  refine calls_enter Tryd.func99 rfl (by intro _ h; first | exact nomatch h.1 | (obtain ⟨_, h, _⟩ := h; exact nomatch h)) Tryd.ntmps99 rfl ?_
  repeat' (first | refine WP_seq ?_ | refine WP_region ?_ | refine wl_nil ?_ | refine then_normal ?_ | refine WP_block ?_ | (refine g_move ?_; refine st_move rfl ?_) | (refine g_assign ?_; refine st_assign rfl ?_) | (refine g_load ?_; refine st_val rfl (r_loadVarA (i := 0) S rfl rfl rfl rfl) ?_) | (refine g_box ?_; refine st_valE rfl (r_box S rfl) ?_; rintro _ w ⟨b, rfl, -, S'⟩; replace S := S'; clear S'))
  refine WP_loop (fun m σ w1 => ∃ i : Int, Has σ [(5, .agg k.enc.toArray), (6, .int .i64 i)] ∧ St w0 w1 [] ∧ 0 ≤ i ∧ i ≤ 7 ∧ (∀ j : Int, 0 ≤ j → j < i → okH (nth (wkL k) j) = true) ∧ m = 7 - i.toNat) 7 ⟨0, ⟨rfl, rfl, trivial⟩, S.keep [false], by omega, by omega, fun j a b => by omega, by omega⟩ ?_
  clear S
  rintro m σ w1 ⟨i, hs, S, hi0, hi1, hok, hm⟩
  refine WP_has hs ?_
  by_cases hi : i < 7
  · repeat' (first | refine WP_seq ?_ | refine WP_region ?_ | refine wl_nil ?_ | refine then_normal ?_ | refine inB_normal ?_ | refine then_ret ?_ | refine inB_ret ?_ | refine WP_ret ?_ | refine WP_skip ?_ | refine WP_block ?_ | refine WP_condT rfl ?_ | (refine g_guard ?_; refine st_off rfl ?_) | (refine g_move ?_; refine st_move rfl ?_) | (refine g_assign ?_; refine st_assign rfl ?_) | (refine g_pick ?_; first | refine st_pickT rfl rfl ?_ | refine st_pickF rfl rfl ?_) | (refine g_b_add ?_; (refine st_val rfl (r_addN rfl rfl ?_ ?_) ?_; (first | omega | (simp <;> omega)); (first | omega | (simp <;> omega)))) | (refine g_b_lss ?_; refine st_val rfl (r_lss rfl rfl) ?_) | (refine g_b_gtr ?_; refine st_val rfl (r_gtr rfl rfl) ?_) | (refine st_val rfl (r_indexArr rfl rfl hi0 (by omega) (wk_get' hi0 hi)) ?_) | (refine wl_split rfl rfl (fun h => ?_) (fun h => ?_) <;> (fail_if_success (have hh : true = true := h)) <;> (fail_if_success (have hh : false = false := h)) <;> (try simp only [decide_eq_true_eq, decide_eq_false_iff_not, Bool.not_eq_true', Bool.not_eq_false', Int.not_lt, Int.not_le] at h) <;> (try (exfalso; omega))) | (refine WP_cond rfl (fun h => ?_) (fun h => ?_) <;> (fail_if_success (have hh : true = true := h)) <;> (fail_if_success (have hh : false = false := h)) <;> (try simp only [decide_eq_true_eq, decide_eq_false_iff_not, Bool.not_eq_true', Bool.not_eq_false', Int.not_lt, Int.not_le] at h) <;> (try (exfalso; omega))))
    all_goals first
      | (refine ⟨⟨_, ?_, i + 1, ⟨rfl, rfl, trivial⟩, S, by omega, by omega, fun j a b => ?_, rfl⟩⟩
         · omega
         · by_cases e : j = i
           · subst e; unfold okH; rw [decide_eq_true_eq]; omega
           · exact hok j a (by omega))
      | (refine end1 rfl rfl ⟨rb ?_, S.below⟩
         symm; refine okW_no hi0 hi ?_
         unfold okH; rw [decide_eq_false_iff_not]; omega)
  · repeat' (first | refine WP_seq ?_ | refine WP_region ?_ | refine wl_nil ?_ | refine then_normal ?_ | refine then_exit ?_ | refine inB_here ?_ | refine WP_ret ?_ | refine WP_exit ?_ | (refine g_assign ?_; refine st_assign rfl ?_) | (refine g_b_lss ?_; refine st_val rfl (r_lss rfl rfl) ?_) | (refine WP_cond rfl (fun h => ?_) (fun h => ?_) <;> (fail_if_success (have hh : true = true := h)) <;> (fail_if_success (have hh : false = false := h)) <;> (try simp only [decide_eq_true_eq, decide_eq_false_iff_not, Bool.not_eq_true', Bool.not_eq_false', Int.not_lt, Int.not_le] at h) <;> (try (exfalso; omega))))
    refine end1 rfl rfl ⟨rb ?_, S.below⟩
    symm; exact okW_of fun j a b => hok j a (by omega)
theorem validW_is {k : GWeek} {b : Bool} {w0 : World} (h : okW k = b) : CallsV Tryd.prog 99 #[.agg k.enc.toArray] w0 (.bool b) := by rw [← h]; exact validW_spec
/-- Whether a week has an hour. -/
def bitW (k : GWeek) (h : Int) : Bool := decide ((nth (wkL k) (h / 24 % 7)).fdiv (2 ^ (min (h % 24).toNat 64)) % 2 = 1)
theorem and_one {x : Int} (h0 : 0 ≤ x) (h1 : x ≤ 16777215) : bitsOp .and .i64 x 1 = x % 2 := by
  obtain ⟨n, rfl⟩ := Int.eq_ofNat_of_zero_le h0
  have e : (BitVec.ofInt IntKind.i64.bits (n : Int) &&& BitVec.ofInt IntKind.i64.bits 1).toNat = n % 2 := by
    rw [BitVec.toNat_and, BitVec.ofInt_natCast]
    show (BitVec.ofNat 64 n).toNat &&& 1 = n % 2
    rw [Nat.and_one_is_mod, BitVec.toNat_ofNat]
    omega
  unfold bitsOp
  simp only [e]
  rw [wrap_in (by omega) (by omega)]; omega
theorem shr_range {x : Int} (h0 : 0 ≤ x) (h1 : x ≤ 16777215) (m : Nat) : 0 ≤ x.fdiv (2 ^ m) ∧ x.fdiv (2 ^ m) ≤ 16777215 := by
  have hp : (0 : Int) < 2 ^ m := Int.pow_pos (by omega)
  rw [Int.fdiv_eq_ediv_of_nonneg _ (by omega)]
  exact ⟨Int.ediv_nonneg h0 (by omega), by have := Int.ediv_le_self (2 ^ m : Int) h0; omega⟩
theorem hasW_spec {k : GWeek} {h : Int} {w0 : World} (hk : okW k = true) (h0 : 0 ≤ h) (h1 : h ≤ 1000000000) : CallsV Tryd.prog 146 #[.agg k.enc.toArray, .int .i64 h] w0 (.bool (bitW k h)) := by
  have S := St.start w0
  have hr := okW_at hk (j := h / 24 % 7) (by omega) (by omega)
  refine CallsV.mk ?_
  refine calls_enter Tryd.func146 rfl (by intro _ h; first | exact nomatch h.1 | (obtain ⟨_, h, _⟩ := h; exact nomatch h)) Tryd.ntmps146 rfl ?_
  repeat' (first | refine WP_seq ?_ | refine WP_region ?_ | refine wl_nil ?_ | refine then_normal ?_ | refine WP_ret ?_ | (refine g_move ?_; refine st_move rfl ?_) | (refine g_assign ?_; refine st_assign rfl ?_) | (refine g_b_quo ?_; (refine st_val rfl (r_quoN rfl rfl ?_ ?_ ?_) ?_; (first | omega | (simp <;> omega)); (first | omega | (simp <;> omega)); (first | omega | (simp <;> omega)))) | (refine g_b_rem ?_; (refine st_val rfl (r_remN rfl rfl ?_ ?_) ?_; (first | omega | (simp <;> omega)); (first | omega | (simp <;> omega)))) | (refine g_b_eql ?_; refine st_val rfl (r_eql rfl rfl) ?_) | (refine g_b_and ?_; refine st_val rfl (r_and rfl rfl) ?_) | (refine g_b_shr ?_; (refine st_val rfl (r_shr rfl rfl ?_) ?_; (first | omega | (simp <;> omega)))) | (refine g_indexAddr ?_; (refine st_val rfl (r_indexAddrArrL rfl rfl ?_ ?_) ?_; (first | omega | (simp <;> omega)); (first | omega | (simp <;> omega)))) | (refine g_box ?_; refine st_valE rfl (r_box S rfl) ?_; rintro _ w ⟨b, rfl, -, S'⟩; replace S := S'; clear S') | (refine st_val rfl (r_loadWk (i := 0) S rfl rfl (by omega) (by omega)) ?_))
  all_goals
    refine end1 rfl rfl ⟨rb ?_, S.below⟩
    have h2 := shr_range hr.1 hr.2 (min (h % 24).toNat 64)
    unfold bitW
    rw [← and_one h2.1 h2.2]
    rfl
def inW (k : GWeek) (t : Int) : Bool := okW k && decide (0 ≤ t ∧ t < 10000000) && bitW k (t / 3600)
theorem inW_spec {k : GWeek} {t : Int} {w0 : World} : CallsV Tryd.prog 141 #[.agg k.enc.toArray, .int .i64 t] w0 (.bool (inW k t)) := by
  have S := St.start w0
  refine CallsV.mk ?_
  refine calls_enter Tryd.func141 rfl (by intro _ h; first | exact nomatch h.1 | (obtain ⟨_, h, _⟩ := h; exact nomatch h)) Tryd.ntmps141 rfl ?_
  by_cases hk : okW k = true
  · by_cases ht : 0 ≤ t ∧ t < 10000000
    · repeat' (first | refine WP_seq ?_ | refine WP_region ?_ | refine wl_nil ?_ | refine then_normal ?_ | refine WP_ret ?_ | (refine g_move ?_; refine st_move rfl ?_) | (refine g_assign ?_; refine st_assign rfl ?_) | (refine g_pick ?_; refine st_pickT rfl rfl ?_) | (refine g_b_quo ?_; (refine st_val rfl (r_quoN rfl rfl ?_ ?_ ?_) ?_; (first | omega | (simp <;> omega)); (first | omega | (simp <;> omega)); (first | omega | (simp <;> omega)))) | (refine g_b_lss ?_; refine st_val rfl (r_lss rfl rfl) ?_) | (refine g_b_geq ?_; refine st_val rfl (r_geq rfl rfl) ?_) | (refine g_load ?_; refine st_val rfl (r_loadVarA (i := 0) S rfl rfl rfl rfl) ?_) | (refine g_callV ?_; first | (refine st_callV rfl (r_call1 rfl rfl) (validW_is hk) ?_; intro w hb; replace S := S.grow hb; clear hb) | (refine st_callV rfl (r_call2 rfl rfl rfl) (hasW_spec hk (by omega) (by omega)) ?_; intro w hb; replace S := S.grow hb; clear hb)) | (refine g_box ?_; refine st_valE rfl (r_box S rfl) ?_; rintro _ w ⟨b, rfl, -, S'⟩; replace S := S'; clear S') | (refine wl_split rfl rfl (fun h => ?_) (fun h => ?_) <;> (fail_if_success (have hh : true = true := h)) <;> (fail_if_success (have hh : false = false := h)) <;> (try simp only [decide_eq_true_eq, decide_eq_false_iff_not, Bool.not_eq_true', Bool.not_eq_false', Int.not_lt, Int.not_le] at h) <;> (try (exfalso; omega))))
      all_goals (refine end1 rfl rfl ⟨rb ?_, S.below⟩; unfold inW; rw [hk, decide_eq_true ht]; first | rfl | simp_all)
    · repeat' (first | refine WP_seq ?_ | refine WP_region ?_ | refine wl_nil ?_ | refine then_normal ?_ | refine WP_ret ?_ | (refine g_guard ?_; refine st_off rfl ?_) | (refine g_move ?_; refine st_move rfl ?_) | (refine g_assign ?_; refine st_assign rfl ?_) | (refine g_pick ?_; first | refine st_pickT rfl rfl ?_ | refine st_pickF rfl rfl ?_) | (refine g_b_lss ?_; refine st_val rfl (r_lss rfl rfl) ?_) | (refine g_b_geq ?_; refine st_val rfl (r_geq rfl rfl) ?_) | (refine g_load ?_; refine st_val rfl (r_loadVarA (i := 0) S rfl rfl rfl rfl) ?_) | (refine g_callV ?_; (refine st_callV rfl (r_call1 rfl rfl) (validW_is hk) ?_; intro w hb; replace S := S.grow hb; clear hb)) | (refine g_box ?_; refine st_valE rfl (r_box S rfl) ?_; rintro _ w ⟨b, rfl, -, S'⟩; replace S := S'; clear S') | (refine wl_split rfl rfl (fun h => ?_) (fun h => ?_) <;> (fail_if_success (have hh : true = true := h)) <;> (fail_if_success (have hh : false = false := h)) <;> (try simp only [decide_eq_true_eq, decide_eq_false_iff_not, Bool.not_eq_true', Bool.not_eq_false', Int.not_lt, Int.not_le] at h) <;> (try (exfalso; omega))))
      all_goals (refine end1 rfl rfl ⟨rb ?_, S.below⟩; unfold inW; rw [hk, decide_eq_false ht]; rfl)
  · have hk' : okW k = false := by simpa using hk
    repeat' (first | refine WP_seq ?_ | refine WP_region ?_ | refine wl_nil ?_ | refine then_normal ?_ | refine WP_ret ?_ | (refine g_guard ?_; refine st_off rfl ?_) | (refine g_move ?_; refine st_move rfl ?_) | (refine g_assign ?_; refine st_assign rfl ?_) | (refine g_pick ?_; refine st_pickF rfl rfl ?_) | (refine g_load ?_; refine st_val rfl (r_loadVarA (i := 0) S rfl rfl rfl rfl) ?_) | (refine g_callV ?_; (refine st_callV rfl (r_call1 rfl rfl) (validW_is hk') ?_; intro w hb; replace S := S.grow hb; clear hb)) | (refine g_box ?_; refine st_valE rfl (r_box S rfl) ?_; rintro _ w ⟨b, rfl, -, S'⟩; replace S := S'; clear S'))
    all_goals (refine end1 rfl rfl ⟨rb ?_, S.below⟩; unfold inW; rw [hk']; rfl)
end Go.Proofs.YtgdmaadikcnagaaDoor
namespace Go.Proofs.YtgdmaadikcnagaaDoor
open Go Go.Gx Go.RowKit
set_option linter.unusedVariables false
set_option linter.unusedSimpArgs false

def okN (c : GContract) : Bool := decide (0 ≤ c.ID ∧ c.ID ≤ 99 ∧ 0 ≤ c.Sponsor ∧ c.Sponsor ≤ 11 ∧ 0 ≤ c.Category ∧ c.Category ≤ 9 ∧ 0 ≤ c.Item ∧ c.Item ≤ 199 ∧ 1 ≤ c.Count ∧ c.Count ≤ 50 ∧ 1 ≤ c.PerDay ∧ c.PerDay ≤ c.Count ∧ 0 ≤ c.Gap ∧ c.Gap ≤ 86400 ∧ 0 ≤ c.Price ∧ c.Price ≤ 1000000)
def okS (s : GSpell) : Bool := decide (0 ≤ s.From ∧ s.From < s.To ∧ s.To ≤ 10000000)
/-- Whether a contract is valid alone. -/
def okC (c : GContract) : Bool := okN c && okW c.Week && okS c.Window
theorem okC_of {c : GContract} {b : Bool} (hn : okN c = true) (hw : okW c.Week = true) (hs : okS c.Window = b) : okC c = b := by unfold okC; rw [hn, hw, hs]; rfl
theorem okC_n {c : GContract} (hn : okN c = false) : okC c = false := by unfold okC; rw [hn]; rfl
theorem okC_w {c : GContract} (hw : okW c.Week = false) : okC c = false := by unfold okC; rw [hw, Bool.and_false, Bool.false_and]
set_option maxHeartbeats 1000000 in
theorem right_spec {c : GContract} {w0 : World} : CallsV Tryd.prog 79 #[.agg c.enc.toArray] w0 (.bool (okC c)) := by
  have S := St.start w0
  refine CallsV.mk ?_
  refine calls_enter Tryd.func79 rfl (by intro _ h; first | exact nomatch h.1 | (obtain ⟨_, h, _⟩ := h; exact nomatch h)) Tryd.ntmps79 rfl ?_
  repeat' (first | refine WP_seq ?_ | refine WP_region ?_ | refine wl_nil ?_ | refine then_normal ?_ | refine WP_ret ?_ | (refine g_guard ?_; refine st_off rfl ?_) | (refine g_move ?_; refine st_move rfl ?_) | (refine g_assign ?_; refine st_assign rfl ?_) | (refine g_pick ?_; first | refine st_pickT rfl rfl ?_ | refine st_pickF rfl rfl ?_) | (refine g_b_lss ?_; refine st_val rfl (r_lss rfl rfl) ?_) | (refine g_b_leq ?_; refine st_val rfl (r_leq rfl rfl) ?_) | (refine g_b_geq ?_; refine st_val rfl (r_geq rfl rfl) ?_) | (refine g_fieldAddr ?_; refine st_val rfl (r_fieldAddrL rfl) ?_) | (refine g_load ?_; first | refine st_val rfl (r_loadVar (i := 0) S rfl rfl rfl) ?_ | refine st_val rfl (r_loadVarA (i := 0) S rfl rfl rfl rfl) ?_) | (refine g_callV ?_; first | (refine st_callV rfl (r_call3 rfl rfl rfl rfl) (btw_spec) ?_; intro w hb; replace S := S.grow hb; clear hb) | (refine st_callV rfl (r_call1 rfl rfl) (validW_spec (k := c.Week)) ?_; intro w hb; replace S := S.grow hb; clear hb)) | (refine g_box ?_; refine st_valE rfl (r_box S rfl) ?_; rintro _ w ⟨b, rfl, -, S'⟩; replace S := S'; clear S') | (refine wl_split rfl rfl (fun h => ?_) (fun h => ?_) <;> (fail_if_success (have hh : true = true := h)) <;> (fail_if_success (have hh : false = false := h)) <;> (try simp only [decide_eq_true_eq, decide_eq_false_iff_not, Bool.not_eq_true', Bool.not_eq_false', Int.not_lt, Int.not_le] at h) <;> (try (exfalso; omega))))
  all_goals
    refine end1 rfl rfl ⟨rb ?_, S.below⟩
    simp only [inR, decide_eq_true_eq, decide_eq_false_iff_not, Bool.not_eq_true', Bool.not_eq_false'] at *
    symm
  all_goals first
    | (refine okC_n ?_; unfold okN; rw [decide_eq_false_iff_not]; omega)
    | exact okC_w (by assumption)
    | (refine okC_of ?_ (by assumption) ?_
       · unfold okN; rw [decide_eq_true_eq]; omega
       · unfold okS; first | (rw [decide_eq_false_iff_not]; omega) | (rw [decide_eq_decide]; omega) | (rw [decide_eq_true_eq]; omega))
def prevC (l : List GContract) (i : Int) : Int := if i = 0 then -1 else (nth l (i - 1)).ID
def okAt (l : List GContract) (i : Int) : Bool := okC (nth l i) && decide (prevC l i < (nth l i).ID)
/-- Whether contracts are valid. -/
def validC (l : List GContract) : Bool := decide (l.length ≤ 12) && (List.range l.length).all fun i => okAt l (i : Int)
theorem okC_id {c : GContract} (h : okC c = true) : 0 ≤ c.ID ∧ c.ID ≤ 99 := by
  unfold okC okN at h
  simp only [Bool.and_eq_true, decide_eq_true_eq] at h
  omega
theorem validC_of {l : List GContract} {b : Bool} (h : ∀ j : Int, 0 ≤ j → j < l.length → okAt l j = true) (hb : decide (l.length ≤ 12) = b) : validC l = b := by
  unfold validC
  have e : ((List.range l.length).all fun i => okAt l (i : Int)) = true := List.all_eq_true.2 fun j hj => h j (by omega) (by have := List.mem_range.1 hj; omega)
  rw [hb, e, Bool.and_true]
theorem validC_no {l : List GContract} {j : Int} (h0 : 0 ≤ j) (hj : j < l.length) (h : okAt l j = false) : validC l = false := by
  unfold validC
  have e : ((List.range l.length).all fun i => okAt l (i : Int)) = false := List.all_eq_false.2 ⟨j.toNat, List.mem_range.2 (by omega), by rw [Int.toNat_of_nonneg h0, h]; decide⟩
  rw [e, Bool.and_false]
theorem validC_at {l : List GContract} (h : validC l = true) {j : Int} (h0 : 0 ≤ j) (hj : j < l.length) : okAt l j = true := by
  unfold validC at h
  have := List.all_eq_true.1 (Bool.and_eq_true_iff.1 h).2 j.toNat (List.mem_range.2 (by omega))
  rwa [Int.toNat_of_nonneg h0] at this
theorem validC_len {l : List GContract} (h : validC l = true) : l.length ≤ 12 := of_decide_eq_true (Bool.and_eq_true_iff.1 h).1
theorem okAt_of {l : List GContract} {i : Int} (h1 : okC (nth l i) = true) (h2 : prevC l i < (nth l i).ID) : okAt l i = true := by unfold okAt; rw [h1, decide_eq_true h2]; rfl
theorem okAt_n {l : List GContract} {i : Int} (h1 : okC (nth l i) = false) : okAt l i = false := by unfold okAt; rw [h1]; rfl
theorem okAt_p {l : List GContract} {i : Int} (h2 : ¬ prevC l i < (nth l i).ID) : okAt l i = false := by unfold okAt; rw [decide_eq_false h2, Bool.and_false]
theorem prevC_cases (l : List GContract) {i : Int} (h : 0 ≤ i) : (i = 0 ∧ prevC l i = -1) ∨ (0 < i ∧ prevC l i = (nth l (i - 1)).ID) := by
  unfold prevC; split
  · exact .inl ⟨by omega, rfl⟩
  · exact .inr ⟨by omega, rfl⟩
theorem valid_spec {v : Value} {l : List GContract} {w0 : World} (hr : Rd fGContract.ty w0 v l) (hl : l.length ≤ 1000000000) : CallsV Tryd.prog 58 #[v] w0 (.bool (validC l)) := by
  have S := St.start w0
  obtain ⟨A, c, rfl⟩ := hr.len
  refine CallsV.mk ?_
  refine calls_enter Tryd.func58 rfl (by intro _ h; first | exact nomatch h.1 | (obtain ⟨_, h, _⟩ := h; exact nomatch h)) Tryd.ntmps58 rfl ?_
  repeat' (first | refine WP_seq ?_ | refine WP_region ?_ | refine wl_nil ?_ | refine then_normal ?_ | refine WP_block ?_ | (refine g_move ?_; refine st_move rfl ?_) | (refine g_assign ?_; refine st_assign rfl ?_) | (refine g_c_len ?_; refine st_val rfl (r_lenSlice rfl) ?_))
  refine WP_loop (fun k σ w1 => ∃ i : Int, Has σ [(0, .slice A l.length c), (5, .slice A l.length c), (6, .int .i64 l.length), (7, .int .i64 i)] ∧ St w0 w1 [] ∧ 0 ≤ i ∧ i ≤ l.length ∧ (∀ j : Int, 0 ≤ j → j < i → okAt l j = true) ∧ k = l.length - i.toNat) l.length ⟨0, ⟨rfl, rfl, rfl, rfl, trivial⟩, S, by omega, by omega, fun j a b => by omega, by omega⟩ ?_
  clear S
  rintro k σ w1 ⟨i, hs, S, hi0, hi1, hok, hk⟩
  refine WP_has hs ?_
  have hp := prevC_cases l hi0
  by_cases hi : i < l.length
  · repeat' (first | refine WP_seq ?_ | refine WP_region ?_ | refine wl_nil ?_ | refine then_normal ?_ | refine inB_normal ?_ | refine then_ret ?_ | refine inB_ret ?_ | refine WP_ret ?_ | refine WP_skip ?_ | refine WP_block ?_ | refine WP_condT rfl ?_ | refine WP_condF rfl ?_ | refine WP_draw (by kernel_rfl) (by kernel_rfl) ?_ | (refine ql_nil ?_; intro w hb; replace S := S.grow hb; clear hb) | (refine g_move ?_; refine st_move rfl ?_) | (refine g_assign ?_; refine st_assign rfl ?_) | (refine g_b_add ?_; (refine st_val rfl (r_addN rfl rfl ?_ ?_) ?_; (first | omega | (simp <;> omega)); (first | omega | (simp <;> omega)))) | (refine g_b_lss ?_; refine st_val rfl (r_lss rfl rfl) ?_) | (refine g_indexAddr ?_; (refine st_val rfl (r_indexAddr (hr.mono S.below) rfl rfl ?_ ?_) ?_; (first | omega | (simp <;> omega)); (first | omega | (simp <;> omega)))) | (refine g_load ?_; (refine st_val rfl (r_loadElem (hr.mono S.below) rfl ?_ ?_) ?_; (first | omega | (simp <;> omega)); (first | omega | (simp <;> omega)))) | (refine gq_guard ?_; refine q_off rfl ?_) | (refine gq_move ?_; refine q_move rfl ?_) | (refine gq_pick ?_; first | refine q_pickT rfl rfl ?_ | refine q_pickF rfl rfl ?_) | (refine gq_b_sub ?_; (refine q_val rfl (fun w' hb => r_subN rfl rfl ?_ ?_) ?_; (first | omega | (simp <;> omega)); (first | omega | (simp <;> omega)))) | (refine gq_b_leq ?_; refine q_val rfl (fun w' hb => r_leq rfl rfl) ?_) | (refine gq_b_gtr ?_; refine q_val rfl (fun w' hb => r_gtr rfl rfl) ?_) | (refine gq_un ?_; refine q_val rfl (fun w' hb => r_not rfl) ?_) | (refine gq_fieldAddr ?_; first | refine q_val rfl (fun w' hb => r_fieldAddrL rfl) ?_ | refine q_val rfl (fun w' hb => r_fieldAddr rfl) ?_) | (refine gq_indexAddr ?_; (refine q_val rfl (fun w' hb => r_indexAddr (hr.mono (S.grow hb).below) rfl rfl ?_ ?_) ?_; (first | omega | (simp <;> omega)); (first | omega | (simp <;> omega)))) | (refine gq_load ?_; first | (refine q_val rfl (fun w' hb => r_loadElem1 (hr.mono (S.grow hb).below) rfl ?_ ?_ rfl) ?_; (first | omega | (simp <;> omega)); (first | omega | (simp <;> omega))) | refine q_val rfl (fun w' hb => r_loadVar (i := 0) (S.grow hb) rfl rfl rfl) ?_ | refine q_val rfl (fun w' hb => r_loadVarA (i := 0) (S.grow hb) rfl rfl rfl rfl) ?_) | (refine gq_callV ?_; refine q_callV rfl (fun w' hb => r_call1 rfl rfl) (fun w' hb => right_spec (c := nth l i)) ?_) | (refine g_alloc ?_; refine st_valE rfl (r_alloc S) ?_; rintro _ w ⟨b, rfl, -, S'⟩; replace S := S'; clear S') | (refine g_store ?_; (refine st_skipE rfl (r_storeVar (i := 0) S rfl rfl rfl rfl (of_decide_eq_true rfl) (of_decide_eq_true rfl)) ?_; intro w S'; replace S := S'; clear S')) | (refine ql_split rfl rfl (fun h => ?_) (fun h => ?_) <;> (fail_if_success (have hh : true = true := h)) <;> (fail_if_success (have hh : false = false := h)) <;> (try simp only [decide_eq_true_eq, decide_eq_false_iff_not, Bool.not_eq_true', Bool.not_eq_false', Int.not_lt, Int.not_le] at h) <;> (try (exfalso; omega))) | (refine WP_cond rfl (fun h => ?_) (fun h => ?_) <;> (fail_if_success (have hh : true = true := h)) <;> (fail_if_success (have hh : false = false := h)) <;> (try simp only [decide_eq_true_eq, decide_eq_false_iff_not, Bool.not_eq_true', Bool.not_eq_false', Int.not_lt, Int.not_le] at h) <;> (try (exfalso; omega))))
    all_goals first
      | (refine ⟨⟨_, ?_, i + 1, ⟨rfl, rfl, rfl, rfl, trivial⟩, S.keep [false], by omega, by omega, fun j a b => ?_, rfl⟩⟩
         · omega
         · by_cases e : j = i
           · subst e
             have hc : okC (nth l j) = true := by first | assumption | (simp_all; done)
             have := okC_id hc
             exact okAt_of hc (by omega)
           · exact hok j a (by omega))
      | (refine end1 rfl rfl ⟨rb ?_, S.below⟩
         symm; refine validC_no hi0 hi ?_
         first | exact okAt_p (by omega) | exact okAt_n (by assumption))
  · repeat' (first | refine WP_seq ?_ | refine WP_region ?_ | refine wl_nil ?_ | refine then_normal ?_ | refine then_exit ?_ | refine inB_here ?_ | refine WP_ret ?_ | refine WP_exit ?_ | (refine g_move ?_; refine st_move rfl ?_) | (refine g_assign ?_; refine st_assign rfl ?_) | (refine g_b_lss ?_; refine st_val rfl (r_lss rfl rfl) ?_) | (refine g_b_leq ?_; refine st_val rfl (r_leq rfl rfl) ?_) | (refine g_c_len ?_; refine st_val rfl (r_lenSlice rfl) ?_) | (refine WP_cond rfl (fun h => ?_) (fun h => ?_) <;> (fail_if_success (have hh : true = true := h)) <;> (fail_if_success (have hh : false = false := h)) <;> (try simp only [decide_eq_true_eq, decide_eq_false_iff_not, Bool.not_eq_true', Bool.not_eq_false', Int.not_lt, Int.not_le] at h) <;> (try (exfalso; omega))))
    refine end1 rfl rfl ⟨rb ?_, S.below⟩
    symm; exact validC_of (fun j a b => hok j a (by omega)) (by rw [decide_eq_decide]; omega)
/-- Whether a spot is valid. -/
def okP (x : GSpot) : Bool := decide (0 ≤ x.Contract ∧ x.Contract ≤ 99 ∧ 0 ≤ x.At ∧ x.At ≤ 9999999)
def validP (l : List GSpot) : Bool := decide (l.length ≤ 60) && l.all okP
theorem good_spec {x : GSpot} {w0 : World} : CallsV Tryd.prog 82 #[.agg x.enc.toArray] w0 (.bool (okP x)) := by
  have S := St.start w0
  refine CallsV.mk ?_
  refine calls_enter Tryd.func82 rfl (by intro _ h; first | exact nomatch h.1 | (obtain ⟨_, h, _⟩ := h; exact nomatch h)) Tryd.ntmps82 rfl ?_
  repeat' (first | refine WP_seq ?_ | refine WP_region ?_ | refine wl_nil ?_ | refine then_normal ?_ | refine WP_ret ?_ | (refine g_guard ?_; refine st_off rfl ?_) | (refine g_move ?_; refine st_move rfl ?_) | (refine g_assign ?_; refine st_assign rfl ?_) | (refine g_pick ?_; first | refine st_pickT rfl rfl ?_ | refine st_pickF rfl rfl ?_) | (refine g_fieldAddr ?_; refine st_val rfl (r_fieldAddrL rfl) ?_) | (refine g_load ?_; refine st_val rfl (r_loadVar (i := 0) S rfl rfl rfl) ?_) | (refine g_callV ?_; (refine st_callV rfl (r_call3 rfl rfl rfl rfl) (btw_spec) ?_; intro w hb; replace S := S.grow hb; clear hb)) | (refine g_box ?_; refine st_valE rfl (r_box S rfl) ?_; rintro _ w ⟨b, rfl, -, S'⟩; replace S := S'; clear S') | (refine wl_split rfl rfl (fun h => ?_) (fun h => ?_) <;> (fail_if_success (have hh : true = true := h)) <;> (fail_if_success (have hh : false = false := h)) <;> (try simp only [decide_eq_true_eq, decide_eq_false_iff_not, Bool.not_eq_true', Bool.not_eq_false', Int.not_lt, Int.not_le] at h) <;> (try (exfalso; omega))))
  all_goals
    refine end1 rfl rfl ⟨rb ?_, S.below⟩
    simp only [inR, decide_eq_true_eq, decide_eq_false_iff_not, Bool.not_eq_true', Bool.not_eq_false'] at *
    symm; unfold okP; first | (rw [decide_eq_false_iff_not]; omega) | (rw [decide_eq_decide]; omega)
theorem bad_spec {x : GSpot} {w0 : World} : CallsV Tryd.prog 81 #[.agg x.enc.toArray] w0 (.bool (!okP x)) := by
  have S := St.start w0
  refine CallsV.mk ?_
  refine calls_enter Tryd.func81 rfl (by intro _ h; first | exact nomatch h.1 | (obtain ⟨_, h, _⟩ := h; exact nomatch h)) Tryd.ntmps81 rfl ?_
  repeat' (first | refine WP_seq ?_ | refine WP_region ?_ | refine wl_nil ?_ | refine then_normal ?_ | refine WP_ret ?_ | (refine g_assign ?_; refine st_assign rfl ?_) | (refine g_un ?_; refine st_val rfl (r_not rfl) ?_) | (refine g_load ?_; refine st_val rfl (r_loadVarA (i := 0) S rfl rfl rfl rfl) ?_) | (refine g_callV ?_; (refine st_callV rfl (r_call1 rfl rfl) (good_spec (x := x)) ?_; intro w hb; replace S := S.grow hb; clear hb)) | (refine g_box ?_; refine st_valE rfl (r_box S rfl) ?_; rintro _ w ⟨b, rfl, -, S'⟩; replace S := S'; clear S'))
  all_goals (refine end1 rfl rfl ⟨rb ?_, S.below⟩; first | rfl | (simp_all; done))
theorem indexFuncP_spec {g : FuncId} [Go.Gx.Enters Tryd.prog g] {cl : List Value} {p : GSpot → Bool} {v : Value} {l : List GSpot} {w : World} (hr : Rd fGSpot.ty w v l) (hl : l.length ≤ 1000000000)
    (hp : ∀ x w', Below w.heap.size w w' → CallsV Tryd.prog g (.agg (GSpot.enc x).toArray :: cl).toArray w' (.bool (p x))) :
    CallsV Tryd.prog 100 #[v, .func (.func g) #[] cl.toArray] w (.int .i64 (idxF p l)) := by
  have S := St.start w
  obtain ⟨A, c, rfl⟩ := hr.len
  refine CallsV.mk ?_
  refine calls_enter Tryd.func100 rfl (by intro _ h; first | exact nomatch h.1 | (obtain ⟨_, h, _⟩ := h; exact nomatch h)) Tryd.ntmps100 rfl ?_
  repeat' (first | refine WP_seq ?_ | refine WP_region ?_ | refine wl_nil ?_ | refine then_normal ?_ | refine WP_block ?_ | (refine g_move ?_; refine st_move rfl ?_) | (refine g_assign ?_; refine st_assign rfl ?_) | (refine g_c_len ?_; refine st_val rfl (r_lenSlice rfl) ?_))
  refine WP_loop (fun k σ w1 => ∃ i : Int, Has σ [(0, .slice A l.length c), (1, .func (.func g) #[] cl.toArray), (7, .int .i64 l.length), (8, .int .i64 i)] ∧ St w w1 [] ∧ 0 ≤ i ∧ i ≤ l.length ∧ k = l.length - i.toNat ∧ ∀ j, j < i.toNat → ∀ x, l[j]? = some x → p x = false) l.length ⟨0, ⟨rfl, rfl, rfl, rfl, trivial⟩, S, by omega, by omega, by omega, fun j hj => by omega⟩ ?_
  rintro k σ w1 ⟨i, hs, S, hi0, hi1, rfl, hnone⟩
  refine WP_has hs ?_
  repeat' (first | refine WP_seq ?_ | refine WP_region ?_ | refine wl_nil ?_ | refine then_normal ?_ | refine inB_normal ?_ | refine then_exit ?_ | refine inB_here ?_ | refine then_ret ?_ | refine inB_ret ?_ | refine WP_ret ?_ | refine WP_skip ?_ | refine WP_exit ?_ | refine WP_block ?_ | (refine g_move ?_; refine st_move rfl ?_) | (refine g_assign ?_; refine st_assign rfl ?_) | (refine g_b_add ?_; (refine st_val rfl (r_addN rfl rfl ?_ ?_) ?_; (first | omega | (simp <;> omega)); (first | omega | (simp <;> omega)))) | (refine g_b_lss ?_; refine st_val rfl (r_lss rfl rfl) ?_) | (refine g_indexAddr ?_; (refine st_val rfl (r_indexAddr (hr.mono S.below) rfl rfl ?_ ?_) ?_; (first | omega | (simp <;> omega)); (first | omega | (simp <;> omega)))) | (refine g_load ?_; (refine st_val rfl (r_loadElem (hr.mono S.below) rfl ?_ ?_) ?_; (first | omega | (simp <;> omega)); (first | omega | (simp <;> omega)))) | (refine g_callV ?_; (refine st_callV rfl (r_call1 rfl rfl) ((hp _ _ S.below)) ?_; intro w hb; replace S := S.grow hb; clear hb)) | (refine WP_cond rfl (fun h => ?_) (fun h => ?_) <;> (fail_if_success (have hh : true = true := h)) <;> (fail_if_success (have hh : false = false := h)) <;> (try simp only [decide_eq_true_eq, decide_eq_false_iff_not, Bool.not_eq_true', Bool.not_eq_false', Int.not_lt, Int.not_le] at h) <;> (try (exfalso; omega))))
  · refine end1 rfl rfl ⟨ri ?_, S.below⟩
    exact (idxF_hit hnone (nth_get (by omega) (by omega)) h (by omega)).symm
  · refine ⟨⟨_, ?_, i + 1, ⟨rfl, rfl, rfl, rfl, trivial⟩, S, by omega, by omega, rfl, fun j hj x hx => ?_⟩⟩
    · omega
    · by_cases e : j = i.toNat
      · subst e; rw [nth_get (by omega) (by omega)] at hx; cases hx; exact h
      · exact hnone j (by omega) x hx
  · refine end1 rfl rfl ⟨ri ?_, S.below⟩
    exact (idxF_none fun x hx => by
      obtain ⟨j, hj⟩ := List.getElem?_of_mem hx
      exact hnone j (by have := List.getElem?_eq_some_iff.1 hj; obtain ⟨hlt, _⟩ := this; omega) x hj).symm

theorem containsFuncP_spec {g : FuncId} [Go.Gx.Enters Tryd.prog g] {cl : List Value} {p : GSpot → Bool} {v : Value} {l : List GSpot} {w : World} (hr : Rd fGSpot.ty w v l) (hl : l.length ≤ 1000000000)
    (hp : ∀ x w', Below w.heap.size w w' → CallsV Tryd.prog g (.agg (GSpot.enc x).toArray :: cl).toArray w' (.bool (p x))) :
    CallsV Tryd.prog 80 #[v, .func (.func g) #[] cl.toArray] w (.bool (l.any p)) := by
  have S := St.start w
  refine CallsV.mk ?_
  refine calls_enter Tryd.func80 rfl (by intro _ h; first | exact nomatch h.1 | (obtain ⟨_, h, _⟩ := h; exact nomatch h)) Tryd.ntmps80 rfl ?_
  repeat' (first | refine WP_seq ?_ | refine WP_region ?_ | refine wl_nil ?_ | refine then_normal ?_ | refine WP_ret ?_ | (refine g_move ?_; refine st_move rfl ?_) | (refine g_assign ?_; refine st_assign rfl ?_) | (refine g_b_geq ?_; refine st_val rfl (r_geq rfl rfl) ?_) | (refine g_callV ?_; (refine st_callV rfl (r_call2 rfl rfl rfl) (indexFuncP_spec (hr.mono S.below) hl (fun x w' hb => hp x w' (S.below.trans (hb.mono S.below.size)))) ?_; intro w hb; replace S := S.grow hb; clear hb)))
  all_goals (refine end1 rfl rfl ⟨rb ?_, S.below⟩; rw [idxF_any])


theorem any_all {l : List GSpot} : (!l.any fun x => !okP x) = l.all okP := by
  induction l with
  | nil => rfl
  | cons a l ih => simp only [List.any_cons, List.all_cons, Bool.not_or, Bool.not_not, ih]
theorem validSpots_spec {v : Value} {l : List GSpot} {w0 : World} (hr : Rd fGSpot.ty w0 v l) (hl : l.length ≤ 1000000000) : CallsV Tryd.prog 59 #[v] w0 (.bool (validP l)) := by
  have S := St.start w0
  obtain ⟨A, c, rfl⟩ := hr.len
  refine CallsV.mk ?_
  refine calls_enter Tryd.func59 rfl (by intro _ h; first | exact nomatch h.1 | (obtain ⟨_, h, _⟩ := h; exact nomatch h)) Tryd.ntmps59 rfl ?_
  by_cases h60 : l.length ≤ 60
  · repeat' (first | refine WP_seq ?_ | refine WP_region ?_ | refine wl_nil ?_ | refine then_normal ?_ | refine WP_ret ?_ | (refine g_move ?_; refine st_move rfl ?_) | (refine g_assign ?_; refine st_assign rfl ?_) | (refine g_pick ?_; refine st_pickT rfl rfl ?_) | (refine g_b_leq ?_; refine st_val rfl (r_leq rfl rfl) ?_) | (refine g_un ?_; refine st_val rfl (r_not rfl) ?_) | (refine g_c_len ?_; refine st_val rfl (r_lenSlice rfl) ?_) | (refine g_callV ?_; (refine st_callV rfl (r_call2 rfl rfl rfl) (containsFuncP_spec (cl := []) (hr.mono S.below) hl (fun x w' hb => bad_spec)) ?_; intro w hb; replace S := S.grow hb; clear hb)) | (refine wl_split rfl rfl (fun h => ?_) (fun h => ?_) <;> (fail_if_success (have hh : true = true := h)) <;> (fail_if_success (have hh : false = false := h)) <;> (try simp only [decide_eq_true_eq, decide_eq_false_iff_not, Bool.not_eq_true', Bool.not_eq_false', Int.not_lt, Int.not_le] at h) <;> (try (exfalso; omega))))
    all_goals (refine end1 rfl rfl ⟨rb ?_, S.below⟩; unfold validP; rw [← any_all, decide_eq_true h60]; first | rfl | (simp_all; done))
  · repeat' (first | refine WP_seq ?_ | refine WP_region ?_ | refine wl_nil ?_ | refine then_normal ?_ | refine WP_ret ?_ | (refine g_guard ?_; refine st_off rfl ?_) | (refine g_move ?_; refine st_move rfl ?_) | (refine g_assign ?_; refine st_assign rfl ?_) | (refine g_pick ?_; refine st_pickF rfl rfl ?_) | (refine g_b_leq ?_; refine st_val rfl (r_leq rfl rfl) ?_) | (refine g_c_len ?_; refine st_val rfl (r_lenSlice rfl) ?_) | (refine wl_split rfl rfl (fun h => ?_) (fun h => ?_) <;> (fail_if_success (have hh : true = true := h)) <;> (fail_if_success (have hh : false = false := h)) <;> (try simp only [decide_eq_true_eq, decide_eq_false_iff_not, Bool.not_eq_true', Bool.not_eq_false', Int.not_lt, Int.not_le] at h) <;> (try (exfalso; omega))))
    all_goals (refine end1 rfl rfl ⟨rb ?_, S.below⟩; unfold validP; rw [decide_eq_false h60]; first | rfl | (simp_all; done))
end Go.Proofs.YtgdmaadikcnagaaDoor
namespace Go.Proofs.YtgdmaadikcnagaaDoor
open Go Go.Gx Go.RowKit
set_option linter.unusedVariables false
set_option linter.unusedSimpArgs false

abbrev eI : Int → Value := fun x => Value.int .i64 x
abbrev eB : Bool → Value := fun x => Value.bool x
abbrev eC : GContract → Value := fun x => Value.agg x.enc.toArray
abbrev eP : GSpot → Value := fun x => Value.agg x.enc.toArray
abbrev eD : GDay → Value := fun x => Value.agg x.enc.toArray
/-- A tally, in a world. -/
structure TalAt (w : World) (bt b1 b2 b3 b4 : Nat) (C : List (Int × GContract)) (Sp : List (GSpot × Bool)) (Mn : List (Int × Int)) (Dy : List (GDay × Int)) : Prop where
  box : CellsAt w ⟨bt, 0, none⟩ [.map (some b1), .map (some b2), .map (some b3), .map (some b4)]
  c : MapAt w b1 eI eC C
  s : MapAt w b2 eP eB Sp
  m : MapAt w b3 eI eI Mn
  d : MapAt w b4 eD eI Dy
theorem TalAt.mono {w w' : World} {bt b1 b2 b3 b4 : Nat} {C : List (Int × GContract)} {Sp : List (GSpot × Bool)} {Mn : List (Int × Int)} {Dy : List (GDay × Int)} (h : TalAt w bt b1 b2 b3 b4 C Sp Mn Dy) (hb : Below w.heap.size w w') : TalAt w' bt b1 b2 b3 b4 C Sp Mn Dy :=
  ⟨h.box.mono hb, h.c.mono hb, h.s.mono hb, h.m.mono hb, h.d.mono hb⟩
def onD (x : GSpot) : GDay := ⟨x.Contract, x.At / 86400⟩
theorem on_spec {x : GSpot} {w0 : World} (h0 : 0 ≤ x.At) (h1 : x.At ≤ 9999999) : CallsV Tryd.prog 64 #[.agg x.enc.toArray] w0 (.agg (onD x).enc.toArray) := by
  have S := St.start w0
  refine CallsV.mk ?_
  refine calls_enter Tryd.func64 rfl (by intro _ h; first | exact nomatch h.1 | (obtain ⟨_, h, _⟩ := h; exact nomatch h)) Tryd.ntmps64 rfl ?_
  repeat' (first | refine WP_seq ?_ | refine WP_region ?_ | refine wl_nil ?_ | refine then_normal ?_ | refine WP_ret ?_ | (refine g_b_quo ?_; (refine st_val rfl (r_quoN rfl rfl ?_ ?_ ?_) ?_; (first | omega | (simp <;> omega)); (first | omega | (simp <;> omega)); (first | omega | (simp <;> omega)))) | (refine g_build ?_; refine st_val rfl (bd139_0_1 rfl rfl) ?_) | (refine g_fieldAddr ?_; refine st_val rfl (r_fieldAddrL rfl) ?_) | (refine g_load ?_; refine st_val rfl (r_loadVar (i := 0) S rfl rfl rfl) ?_) | (refine g_box ?_; refine st_valE rfl (r_box S rfl) ?_; rintro _ w ⟨b, rfl, -, S'⟩; replace S := S'; clear S') | (refine g_alloc ?_; refine st_valE rfl (r_alloc S) ?_; rintro _ w ⟨b, rfl, -, S'⟩; replace S := S'; clear S') | (refine g_store ?_; first | (refine st_skipE rfl (r_storeVar (i := 0) S rfl rfl rfl rfl (of_decide_eq_true rfl) (of_decide_eq_true rfl)) ?_; intro w S'; replace S := S'; clear S') | (refine st_skipE rfl (r_storeVar (i := 1) S rfl rfl rfl rfl (of_decide_eq_true rfl) (of_decide_eq_true rfl)) ?_; intro w S'; replace S := S'; clear S')))
  exact endCellA rfl rfl S (i := 1) rfl rfl ⟨rfl, S.below⟩
def n1 (c : GContract) (x : GSpot) : Bool := decide (x.At < c.Window.From ∨ c.Window.To ≤ x.At)
def n2 (c : GContract) (x : GSpot) : Bool := !inW c.Week x.At
def n3 (Sp : List (GSpot × Bool)) (x : GSpot) : Bool := (mGet x Sp).getD false
def n4 (Mn : List (Int × Int)) (c : GContract) : Bool := decide (c.Count ≤ (mGet c.ID Mn).getD 0)
def n5 (Dy : List (GDay × Int)) (c : GContract) (x : GSpot) : Bool := decide (c.PerDay ≤ (mGet (onD x) Dy).getD 0)
def nearI (d c : GContract) (s : GSpot) (t : Int) : Bool := decide (d.Category = c.Category ∧ d.Sponsor ≠ c.Sponsor ∧ max (t - s.At) (s.At - t) < max c.Gap d.Gap)
def n6 (C : List (Int × GContract)) (Sp : List (GSpot × Bool)) (c : GContract) (x : GSpot) : Bool := Sp.any fun s => nearI ((mGet s.1.Contract C).getD default) c s.1 x.At
section
variable {w0 : World} {bt b1 b2 b3 b4 : Nat} {C : List (Int × GContract)} {Sp : List (GSpot × Bool)} {Mn : List (Int × Int)} {Dy : List (GDay × Int)} {c : GContract} {x : GSpot}
theorem t1_spec {v : Value} : CallsV Tryd.prog 139 #[v, .agg c.enc.toArray, .agg x.enc.toArray] w0 (.bool (n1 c x)) := by
  have S := St.start w0
  refine CallsV.mk ?_
  refine calls_enter Tryd.func139 rfl (by intro _ h; first | exact nomatch h.1 | (obtain ⟨_, h, _⟩ := h; exact nomatch h)) Tryd.ntmps139 rfl ?_
  repeat' (first | refine WP_seq ?_ | refine WP_region ?_ | refine wl_nil ?_ | refine then_normal ?_ | refine WP_ret ?_ | (refine g_guard ?_; refine st_off rfl ?_) | (refine g_move ?_; refine st_move rfl ?_) | (refine g_assign ?_; refine st_assign rfl ?_) | (refine g_pick ?_; first | refine st_pickT rfl rfl ?_ | refine st_pickF rfl rfl ?_) | (refine g_b_lss ?_; refine st_val rfl (r_lss rfl rfl) ?_) | (refine g_b_geq ?_; refine st_val rfl (r_geq rfl rfl) ?_) | (refine g_fieldAddr ?_; refine st_val rfl (r_fieldAddrL rfl) ?_) | (refine g_load ?_; first | refine st_val rfl (r_loadVar (i := 0) S rfl rfl rfl) ?_ | refine st_val rfl (r_loadVar (i := 1) S rfl rfl rfl) ?_) | (refine g_box ?_; refine st_valE rfl (r_box S rfl) ?_; rintro _ w ⟨b, rfl, -, S'⟩; replace S := S'; clear S') | (refine wl_split rfl rfl (fun h => ?_) (fun h => ?_) <;> (fail_if_success (have hh : true = true := h)) <;> (fail_if_success (have hh : false = false := h)) <;> (try simp only [decide_eq_true_eq, decide_eq_false_iff_not, Bool.not_eq_true', Bool.not_eq_false', Int.not_lt, Int.not_le] at h) <;> (try (exfalso; omega))))
  all_goals
    refine end1 rfl rfl ⟨rb ?_, S.below⟩
    unfold n1
    symm; first | (rw [decide_eq_true_eq]; omega) | (rw [decide_eq_decide]; omega)
theorem t2_spec {v : Value} : CallsV Tryd.prog 140 #[v, .agg c.enc.toArray, .agg x.enc.toArray] w0 (.bool (n2 c x)) := by
  have S := St.start w0
  refine CallsV.mk ?_
  refine calls_enter Tryd.func140 rfl (by intro _ h; first | exact nomatch h.1 | (obtain ⟨_, h, _⟩ := h; exact nomatch h)) Tryd.ntmps140 rfl ?_
  repeat' (first | refine WP_seq ?_ | refine WP_region ?_ | refine wl_nil ?_ | refine then_normal ?_ | refine WP_ret ?_ | (refine g_assign ?_; refine st_assign rfl ?_) | (refine g_un ?_; refine st_val rfl (r_not rfl) ?_) | (refine g_fieldAddr ?_; refine st_val rfl (r_fieldAddrL rfl) ?_) | (refine g_load ?_; first | refine st_val rfl (r_loadVarA (i := 0) S rfl rfl rfl rfl) ?_ | refine st_val rfl (r_loadVar (i := 1) S rfl rfl rfl) ?_) | (refine g_callV ?_; (refine st_callV rfl (r_call2 rfl rfl rfl) (inW_spec (k := c.Week) (t := x.At)) ?_; intro w hb; replace S := S.grow hb; clear hb)) | (refine g_box ?_; refine st_valE rfl (r_box S rfl) ?_; rintro _ w ⟨b, rfl, -, S'⟩; replace S := S'; clear S'))
  all_goals
    refine end1 rfl rfl ⟨rb ?_, S.below⟩
    unfold n2
    first | rfl | (simp_all; done)
theorem t3_spec (T : TalAt w0 bt b1 b2 b3 b4 C Sp Mn Dy) : CallsV Tryd.prog 142 #[.pointer (some ⟨bt, 0, none⟩), .agg c.enc.toArray, .agg x.enc.toArray] w0 (.bool (n3 Sp x)) := by
  have S := St.start w0
  refine CallsV.mk ?_
  refine calls_enter Tryd.func142 rfl (by intro _ h; first | exact nomatch h.1 | (obtain ⟨_, h, _⟩ := h; exact nomatch h)) Tryd.ntmps142 rfl ?_
  repeat' (first | refine WP_seq ?_ | refine WP_region ?_ | refine wl_nil ?_ | refine then_normal ?_ | refine WP_ret ?_ | refine WP_draw (by kernel_rfl) (by kernel_rfl) ?_ | (refine ql_nil ?_; intro w hb; replace S := S.grow hb; clear hb) | (refine g_assign ?_; refine st_assign rfl ?_) | (refine gq_move ?_; refine q_move rfl ?_) | (refine gq_assign ?_; refine q_assign rfl ?_) | (refine gq_nilCheck ?_; refine q_val rfl (fun w' hb => r_nilCheck rfl) ?_) | (refine gq_fieldAddr ?_; refine q_val rfl (fun w' hb => r_fieldAddrL rfl) ?_) | (refine gq_load ?_; first | refine q_val rfl (fun w' hb => r_loadAt (T.box.mono (S.grow hb).below) rfl rfl) ?_ | refine q_val rfl (fun w' hb => r_loadVarA (i := 1) (S.grow hb) rfl rfl rfl rfl) ?_) | (refine g_box ?_; refine st_valE rfl (r_box S rfl) ?_; rintro _ w ⟨b, rfl, -, S'⟩; replace S := S'; clear S') | (refine q_val rfl (fun w' hb => r_lookup1D (k := x) (eK := eP) (eV := eB) false rfl (T.s.mono (S.grow hb).below) rfl rfl) ?_))
  all_goals exact end1 rfl rfl ⟨rb (by first | rfl | assumption | (symm; assumption)), S.below⟩
theorem t4_spec (T : TalAt w0 bt b1 b2 b3 b4 C Sp Mn Dy) : CallsV Tryd.prog 143 #[.pointer (some ⟨bt, 0, none⟩), .agg c.enc.toArray, .agg x.enc.toArray] w0 (.bool (n4 Mn c)) := by
  have S := St.start w0
  refine CallsV.mk ?_
  refine calls_enter Tryd.func143 rfl (by intro _ h; first | exact nomatch h.1 | (obtain ⟨_, h, _⟩ := h; exact nomatch h)) Tryd.ntmps143 rfl ?_
  repeat' (first | refine WP_seq ?_ | refine WP_region ?_ | refine wl_nil ?_ | refine then_normal ?_ | refine WP_ret ?_ | refine WP_draw (by kernel_rfl) (by kernel_rfl) ?_ | (refine ql_nil ?_; intro w hb; replace S := S.grow hb; clear hb) | (refine g_assign ?_; refine st_assign rfl ?_) | (refine gq_move ?_; refine q_move rfl ?_) | (refine gq_assign ?_; refine q_assign rfl ?_) | (refine gq_b_geq ?_; refine q_val rfl (fun w' hb => r_geq rfl rfl) ?_) | (refine gq_nilCheck ?_; refine q_val rfl (fun w' hb => r_nilCheck rfl) ?_) | (refine gq_fieldAddr ?_; refine q_val rfl (fun w' hb => r_fieldAddrL rfl) ?_) | (refine gq_load ?_; first | refine q_val rfl (fun w' hb => r_loadAt (T.box.mono (S.grow hb).below) rfl rfl) ?_ | refine q_val rfl (fun w' hb => r_loadVar (i := 0) (S.grow hb) rfl rfl rfl) ?_) | (refine g_box ?_; refine st_valE rfl (r_box S rfl) ?_; rintro _ w ⟨b, rfl, -, S'⟩; replace S := S'; clear S') | (refine q_val rfl (fun w' hb => r_lookup1D (k := c.ID) (eK := eI) (eV := eI) 0 rfl (T.m.mono (S.grow hb).below) rfl rfl) ?_))
  all_goals (refine end1 rfl rfl ⟨rb ?_, S.below⟩; first | rfl | (unfold n4; simp_all; done))
theorem t5_spec (T : TalAt w0 bt b1 b2 b3 b4 C Sp Mn Dy) (h0 : 0 ≤ x.At) (h1 : x.At ≤ 9999999) : CallsV Tryd.prog 144 #[.pointer (some ⟨bt, 0, none⟩), .agg c.enc.toArray, .agg x.enc.toArray] w0 (.bool (n5 Dy c x)) := by
  have S := St.start w0
  refine CallsV.mk ?_
  refine calls_enter Tryd.func144 rfl (by intro _ h; first | exact nomatch h.1 | (obtain ⟨_, h, _⟩ := h; exact nomatch h)) Tryd.ntmps144 rfl ?_
  repeat' (first | refine WP_seq ?_ | refine WP_region ?_ | refine wl_nil ?_ | refine then_normal ?_ | refine WP_ret ?_ | refine WP_draw (by kernel_rfl) (by kernel_rfl) ?_ | (refine ql_nil ?_; intro w hb; replace S := S.grow hb; clear hb) | (refine g_assign ?_; refine st_assign rfl ?_) | (refine gq_move ?_; refine q_move rfl ?_) | (refine gq_assign ?_; refine q_assign rfl ?_) | (refine gq_b_geq ?_; refine q_val rfl (fun w' hb => r_geq rfl rfl) ?_) | (refine gq_nilCheck ?_; refine q_val rfl (fun w' hb => r_nilCheck rfl) ?_) | (refine gq_fieldAddr ?_; refine q_val rfl (fun w' hb => r_fieldAddrL rfl) ?_) | (refine gq_load ?_; first | refine q_val rfl (fun w' hb => r_loadAt (T.box.mono (S.grow hb).below) rfl rfl) ?_ | refine q_val rfl (fun w' hb => r_loadVar (i := 0) (S.grow hb) rfl rfl rfl) ?_ | refine q_val rfl (fun w' hb => r_loadVarA (i := 1) (S.grow hb) rfl rfl rfl rfl) ?_) | (refine gq_callV ?_; refine q_callV rfl (fun w' hb => r_call1 rfl rfl) (fun w' hb => on_spec h0 h1) ?_) | (refine g_box ?_; refine st_valE rfl (r_box S rfl) ?_; rintro _ w ⟨b, rfl, -, S'⟩; replace S := S'; clear S') | (refine q_val rfl (fun w' hb => r_lookup1D (k := onD x) (eK := eD) (eV := eI) 0 rfl (T.d.mono (S.grow hb).below) rfl rfl) ?_))
  all_goals (refine end1 rfl rfl ⟨rb ?_, S.below⟩; first | rfl | (unfold n5; simp_all; done))
end
end Go.Proofs.YtgdmaadikcnagaaDoor
namespace Go.Proofs.YtgdmaadikcnagaaDoor
open Go Go.Gx Go.RowKit
set_option linter.unusedVariables false
set_option linter.unusedSimpArgs false

def unseen (n : Nat) (seen : Array Nat) : Nat := ((List.range n).filter fun m => !seen.contains m).length
theorem filter_lt {α : Type} {p q : α → Bool} {l : List α} (h : ∀ x, q x = true → p x = true) {a : α} (ha : a ∈ l) (hp : p a = true) (hq : q a = false) : (l.filter q).length < (l.filter p).length := by
  induction l with
  | nil => cases ha
  | cons y r ih =>
    have hle : (r.filter q).length ≤ (r.filter p).length := by
      clear ih ha
      induction r with
      | nil => exact Nat.le_refl _
      | cons z r ih =>
        rw [List.filter_cons, List.filter_cons]
        cases hz : q z with
        | true => rw [h z hz]; simp; exact ih
        | false => cases p z <;> simp <;> omega
    rw [List.filter_cons, List.filter_cons]
    rcases List.mem_cons.1 ha with rfl | ha
    · rw [hp, hq]; simp; omega
    · have := ih ha
      cases hz : q y with
      | true => rw [h y hz]; simp; omega
      | false => cases p y <;> simp <;> omega
theorem unseen_push {n m : Nat} {seen : Array Nat} (hm : m < n) (h : m ∉ seen) : unseen n (seen.push m) < unseen n seen := by
  refine filter_lt (a := m) (fun x hx => ?_) (List.mem_range.2 hm) (by simpa using h) (by simp)
  simp at hx ⊢
  exact hx.1
theorem n6_of {C : List (Int × GContract)} {Sp : List (GSpot × Bool)} {c : GContract} {x : GSpot} {m : Nat} {s : GSpot × Bool} (hs : Sp[m]? = some s) (h : nearI ((mGet s.1.Contract C).getD default) c s.1 x.At = true) : n6 C Sp c x = true :=
  List.any_eq_true.2 ⟨s, List.mem_of_getElem? hs, h⟩
theorem n6_no {C : List (Int × GContract)} {Sp : List (GSpot × Bool)} {c : GContract} {x : GSpot} (h : ∀ (m : Nat) (s : GSpot × Bool), Sp[m]? = some s → nearI ((mGet s.1.Contract C).getD default) c s.1 x.At = false) : n6 C Sp c x = false := by
  unfold n6
  rw [List.any_eq_false]
  intro s hs
  obtain ⟨m, hm⟩ := List.getElem?_of_mem hs
  rw [h m s hm]; decide
section
variable {w0 : World} {bt b1 b2 b3 b4 : Nat} {C : List (Int × GContract)} {Sp : List (GSpot × Bool)} {Mn : List (Int × Int)} {Dy : List (GDay × Int)} {c : GContract} {x : GSpot}
theorem t6_spec (T : TalAt w0 bt b1 b2 b3 b4 C Sp Mn Dy) (hx : 0 ≤ x.At ∧ x.At ≤ 9999999) (hs : ∀ s ∈ Sp, 0 ≤ s.1.At ∧ s.1.At ≤ 9999999) : CallsV Tryd.prog 145 #[.pointer (some ⟨bt, 0, none⟩), .agg c.enc.toArray, .agg x.enc.toArray] w0 (.bool (n6 C Sp c x)) := by
  have S := St.start w0
  refine CallsV.mk ?_
  refine calls_enter Tryd.func145 rfl (by intro _ h; first | exact nomatch h.1 | (obtain ⟨_, h, _⟩ := h; exact nomatch h)) Tryd.ntmps145 rfl ?_
  repeat' (first | refine WP_seq ?_ | refine WP_region ?_ | refine wl_nil ?_ | refine then_normal ?_ | refine WP_block ?_ | (refine g_move ?_; refine st_move rfl ?_) | (refine g_assign ?_; refine st_assign rfl ?_) | (refine g_nilCheck ?_; refine st_val rfl (r_nilCheck rfl) ?_) | (refine g_fieldAddr ?_; refine st_val rfl (r_fieldAddrL rfl) ?_) | (refine g_load ?_; refine st_val rfl (r_loadAt (T.box.mono S.below) rfl rfl) ?_) | (refine g_box ?_; refine st_valE rfl (r_box S rfl) ?_; rintro _ w ⟨b, rfl, -, S'⟩; replace S := S'; clear S') | (refine st_valE rfl (r_rangeH (eK := eP) (eV := eB) S (T.s.mono S.below) rfl) ?_; rintro _ w ⟨bi, rfl, -, S'⟩; replace S := S'; clear S'))
  refine WP_loop (fun k σ w1 => ∃ (bc bx bi : Nat) (seen : Array Nat), Has σ [(0, .pointer (some ⟨bt, 0, none⟩)), (4, .pointer (some ⟨bc, 0, none⟩)), (5, .pointer (some ⟨bx, 0, none⟩)), (13, .pointer (some ⟨bi, 0, none⟩))] ∧ St w0 w1 [.var bc 76 c.enc, .var bx 78 x.enc, iterOb b2 bi Sp.length seen] ∧ (∀ m ∈ seen, ∀ s, Sp[m]? = some s → nearI ((mGet s.1.Contract C).getD default) c s.1 x.At = false) ∧ k = unseen Sp.length seen) (unseen Sp.length #[]) ⟨_, _, _, #[], ⟨rfl, rfl, rfl, rfl, trivial⟩, S, fun m h => by simp at h, rfl⟩ ?_
  clear S
  rintro k σ w1 ⟨bc, bx, bi, seen, hs', S, hno, hk⟩
  refine WP_has hs' ?_
  repeat' (first | refine WP_seq ?_ | refine WP_region ?_)
  refine st_valE rfl (r_nextH (j := 2) (eK := eP) (eV := eB) S (T.s.mono S.below) rfl rfl) ?_
  rintro _ w (⟨rfl, hall, S'⟩ | ⟨m, s, hm, hms, rfl, S'⟩) <;> (replace S := S'; clear S')
  · repeat' (first | refine WP_seq ?_ | refine WP_region ?_ | refine wl_nil ?_ | refine then_normal ?_ | refine then_exit ?_ | refine inB_here ?_ | refine WP_ret ?_ | refine WP_exit ?_ | refine WP_condF rfl ?_ | (refine g_assign ?_; refine st_assign rfl ?_) | (refine g_extract ?_; refine st_val rfl (r_extract rfl rfl) ?_))
    refine end1 rfl rfl ⟨rb ?_, S.below⟩
    exact (n6_no fun m s h => hno m (hall m (List.getElem?_eq_some_iff.1 h).1) s h).symm
  · have hlt := (List.getElem?_eq_some_iff.1 hms).1
    have hsa := hs s (List.mem_of_getElem? hms)
    repeat' (first | refine WP_seq ?_ | refine WP_region ?_ | refine wl_nil ?_ | refine then_normal ?_ | refine inB_normal ?_ | refine then_ret ?_ | refine inB_ret ?_ | refine WP_ret ?_ | refine WP_skip ?_ | refine WP_block ?_ | refine WP_condT rfl ?_ | refine WP_condF rfl ?_ | refine WP_drawGrow 7 8 (by kernel_rfl) (by decide +kernel) ?_ | refine wg_nil ?_ | (refine wg_val rfl (r_alloc S) (by rintro _ _ ⟨b, -, h, -⟩; exact h) ?_; rintro _ w ⟨b, rfl, -, S'⟩ w hb; replace S := S'.grow hb; clear S' hb) | (refine ql_nil ?_; intro w hb; replace S := S.grow hb; clear hb) | (refine g_guard ?_; refine st_off rfl ?_) | (refine g_move ?_; refine st_move rfl ?_) | (refine g_assign ?_; refine st_assign rfl ?_) | (refine g_pick ?_; first | refine st_pickT rfl rfl ?_ | refine st_pickF rfl rfl ?_) | (refine g_b_sub ?_; (refine st_val rfl (r_subN rfl rfl ?_ ?_) ?_; (first | omega | (simp <;> omega)); (first | omega | (simp <;> omega)))) | (refine g_b_eql ?_; refine st_val rfl (r_eql rfl rfl) ?_) | (refine g_b_neq ?_; refine st_val rfl (r_neq rfl rfl) ?_) | (refine g_b_lss ?_; refine st_val rfl (r_lss rfl rfl) ?_) | (refine g_extract ?_; refine st_val rfl (r_extract rfl rfl) ?_) | (refine g_c_max ?_; refine st_val rfl (r_max2 rfl rfl) ?_) | (refine g_fieldAddr ?_; refine st_val rfl (r_fieldAddrL rfl) ?_) | (refine g_load ?_; first | refine st_val rfl (r_loadVar (i := 0) S rfl rfl rfl) ?_ | refine st_val rfl (r_loadVar (i := 1) S rfl rfl rfl) ?_ | refine st_val rfl (r_loadVar (i := 3) S rfl rfl rfl) ?_ | refine st_val rfl (r_loadVar (i := 4) S rfl rfl rfl) ?_) | (refine gq_move ?_; refine q_move rfl ?_) | (refine gq_nilCheck ?_; refine q_val rfl (fun w' hb => r_nilCheck rfl) ?_) | (refine gq_fieldAddr ?_; refine q_val rfl (fun w' hb => r_fieldAddrL rfl) ?_) | (refine gq_load ?_; first | refine q_val rfl (fun w' hb => r_loadAt (T.box.mono (S.grow hb).below) rfl rfl) ?_ | refine q_val rfl (fun w' hb => r_loadVar (i := 3) (S.grow hb) rfl rfl rfl) ?_) | (refine g_alloc ?_; refine st_valE rfl (r_alloc S) ?_; rintro _ w ⟨b, rfl, -, S'⟩; replace S := S'; clear S') | (refine g_store ?_; first | (refine st_skipE rfl (r_storeVar (i := 0) S rfl rfl rfl rfl (of_decide_eq_true rfl) (of_decide_eq_true rfl)) ?_; intro w S'; replace S := S'; clear S') | (refine st_skipE rfl (r_storeVar (i := 1) S rfl rfl rfl rfl (of_decide_eq_true rfl) (of_decide_eq_true rfl)) ?_; intro w S'; replace S := S'; clear S') | (refine st_skipE rfl (r_storeVar (i := 2) S rfl rfl rfl rfl (of_decide_eq_true rfl) (of_decide_eq_true rfl)) ?_; intro w S'; replace S := S'; clear S') | (refine st_skipE rfl (r_storeVar (i := 3) S rfl rfl rfl rfl (of_decide_eq_true rfl) (of_decide_eq_true rfl)) ?_; intro w S'; replace S := S'; clear S') | (refine st_skipE rfl (r_storeVar (i := 4) S rfl rfl rfl rfl (of_decide_eq_true rfl) (of_decide_eq_true rfl)) ?_; intro w S'; replace S := S'; clear S')) | (refine st_val rfl (r_entryH (j := 2) (eK := eP) (eV := eB) S (T.s.mono S.below) rfl hms rfl) ?_) | (refine q_val rfl (fun w' hb => r_lookup1D (k := s.1.Contract) (eK := eI) (eV := eC) default rfl (T.c.mono (S.grow hb).below) rfl rfl) ?_) | (refine wl_split rfl rfl (fun h => ?_) (fun h => ?_) <;> (fail_if_success (have hh : true = true := h)) <;> (fail_if_success (have hh : false = false := h)) <;> (try simp only [decide_eq_true_eq, decide_eq_false_iff_not, Bool.not_eq_true', Bool.not_eq_false', Int.not_lt, Int.not_le] at h) <;> (try (exfalso; omega))) | (refine WP_cond rfl (fun h => ?_) (fun h => ?_) <;> (fail_if_success (have hh : true = true := h)) <;> (fail_if_success (have hh : false = false := h)) <;> (try simp only [decide_eq_true_eq, decide_eq_false_iff_not, Bool.not_eq_true', Bool.not_eq_false', Int.not_lt, Int.not_le] at h) <;> (try (exfalso; omega))))
    all_goals first
      | (refine end1 rfl rfl ⟨rb ?_, S.below⟩
         symm; refine n6_of hms ?_
         unfold nearI; rw [decide_eq_true_eq]; exact ⟨by omega, by omega, by omega⟩)
      | (refine ⟨⟨_, ?_, _, _, _, seen.push m, ⟨rfl, rfl, rfl, rfl, trivial⟩, S.keep [true, true, true], fun m' h' s' e => ?_, rfl⟩⟩
         · rw [hk]; exact unseen_push hlt hm
         · rcases Array.mem_push.1 h' with h' | rfl
           · exact hno m' h' s' e
           · rw [hms] at e; cases e
             unfold nearI; rw [decide_eq_false_iff_not]
             rintro ⟨q1, q2, q3⟩; first | omega | exact absurd q2 (by omega))
end
end Go.Proofs.YtgdmaadikcnagaaDoor
namespace Go.Proofs.YtgdmaadikcnagaaDoor
open Go Go.Gx Go.RowKit
set_option linter.unusedVariables false
set_option linter.unusedSimpArgs false

abbrev fnv (k : Nat) : Value := .func (.func k) #[] #[]
/-- The table of what can stand in the way. -/
abbrev tbl : List Value := [.nilFunc, .nilFunc, fnv 139, fnv 140, fnv 142, fnv 143, fnv 144, fnv 145]
abbrev TblAt (w : World) : Prop := CellsAt w ⟨1, 0, none⟩ tbl
section
variable {ρ : Operand → Value} {w : World} {d : Option Tmp} {ty : TypeId} {pos : String} {af : Array Edge} {g : Option (Nat × Bool)} {s t : Operand}
theorem neq_nil (h1 : ρ s = .nilFunc) (h2 : ρ t = .nilFunc) : Runs Tryd.prog ρ ⟨d, .binOp .neq 159 s t 159, ty, pos, af, g⟩ w (.ok (.value (.bool false)) w) := ⟨by
  have e : (binOp .neq 159 .nilFunc .nilFunc).run Tryd.prog w = .ok (.bool false) w := by kernel_rfl
  simp only [execOp, h1, h2, eqGuard]
  exact run_bind e⟩
theorem neq_fn {k : Nat} (h1 : ρ s = fnv k) (h2 : ρ t = .nilFunc) : Runs Tryd.prog ρ ⟨d, .binOp .neq 159 s t 159, ty, pos, af, g⟩ w (.ok (.value (.bool true)) w) := ⟨by
  have e : (binOp .neq 159 (fnv k) .nilFunc).run Tryd.prog w = .ok (.bool true) w := by kernel_rfl
  simp only [execOp, h1, h2, eqGuard]
  exact run_bind e⟩
end
/-- The reason of a spot, by what a tally holds. -/
def rsnM (C : List (Int × GContract)) (Sp : List (GSpot × Bool)) (Mn : List (Int × Int)) (Dy : List (GDay × Int)) (x : GSpot) : Int :=
  match mGet x.Contract C with
  | none => 1
  | some c => if n1 c x then 2 else if n2 c x then 3 else if n3 Sp x then 4 else if n4 Mn c then 5 else if n5 Dy c x then 6 else if n6 C Sp c x then 7 else 0
section
variable {w0 : World} {bt b1 b2 b3 b4 : Nat} {C : List (Int × GContract)} {Sp : List (GSpot × Bool)} {Mn : List (Int × Int)} {Dy : List (GDay × Int)} {x : GSpot}
set_option maxHeartbeats 1000000 in
theorem reason_spec (T : TalAt w0 bt b1 b2 b3 b4 C Sp Mn Dy) (hG : TblAt w0) (hx : 0 ≤ x.At ∧ x.At ≤ 9999999) (hs : ∀ s ∈ Sp, 0 ≤ s.1.At ∧ s.1.At ≤ 9999999) : CallsV Tryd.prog 63 #[.pointer (some ⟨bt, 0, none⟩), .agg x.enc.toArray] w0 (.int .i64 (rsnM C Sp Mn Dy x)) := by
  have S := St.start w0
  refine CallsV.mk ?_
  refine calls_enter Tryd.func63 rfl (by intro _ h; first | exact nomatch h.1 | (obtain ⟨_, h, _⟩ := h; exact nomatch h)) Tryd.ntmps63 rfl ?_
  cases hc : mGet x.Contract C with
  | none =>
    repeat' (first | refine WP_seq ?_ | refine WP_region ?_ | refine wl_nil ?_ | refine then_normal ?_ | refine then_ret ?_ | refine WP_ret ?_ | refine WP_condT rfl ?_ | (refine WP_drawJ (fun w' => St w0 w' [.var b 78 x.enc]) [0,1,2,3,4,5,6,7,8,9] [10,11] [12] (by kernel_rfl) (by decide) (by decide +kernel) (fun w' hb => (S.grow hb).keep [true]) ?_; intro w hb; replace S := S.grow hb; clear hb) | refine jq_nil ?_ | refine wj_nil ?_ | (refine g_move ?_; refine st_move rfl ?_) | (refine g_assign ?_; refine st_assign rfl ?_) | (refine g_un ?_; refine st_val rfl (r_not rfl) ?_) | (refine gj_move ?_; refine jq_val rfl (fun w' hJ => ⟨rfl⟩) ?_) | (refine gj_assign ?_; refine jq_val rfl (fun w' hJ => ⟨rfl⟩) ?_) | (refine gj_nilCheck ?_; refine jq_val rfl (fun w' hJ => r_nilCheck rfl) ?_) | (refine gj_extract ?_; refine jq_val rfl (fun w' hJ => r_extract rfl rfl) ?_) | (refine gj_fieldAddr ?_; refine jq_val rfl (fun w' hJ => r_fieldAddrL rfl) ?_) | (refine gj_load ?_; first | refine jq_val rfl (fun w' hJ => r_loadAt (T.box.mono hJ.below) rfl rfl) ?_ | refine jq_val rfl (fun w' hJ => r_loadVar (i := 0) hJ rfl rfl rfl) ?_) | (refine g_box ?_; refine st_valE rfl (r_box S rfl) ?_; rintro _ w ⟨b, rfl, -, S'⟩; replace S := S'; clear S') | (refine jq_val rfl (fun w' hJ => r_lookupN (k := x.Contract) (eK := eI) (eV := eC) (T.c.mono hJ.below) hc rfl rfl) ?_) | (refine wj_valE rfl (r_alloc S) ?_; rintro _ w ⟨b', rfl, -, S'⟩; refine ⟨S'.keep [true], ?_⟩; replace S := S'; clear S') | (refine wj_skipE rfl (r_storeVar (i := 1) S rfl rfl rfl rfl (of_decide_eq_true rfl) (of_decide_eq_true rfl)) ?_; intro w S'; refine ⟨S'.keep [true], ?_⟩; replace S := S'; clear S'))
    exact end1 rfl rfl ⟨ri (by unfold rsnM; rw [hc]), S.below⟩
  | some c =>
    repeat' (first | refine WP_seq ?_ | refine WP_region ?_ | refine wl_nil ?_ | refine then_normal ?_ | refine WP_skip ?_ | refine WP_block ?_ | refine WP_condF rfl ?_ | (refine WP_drawJ (fun w' => St w0 w' [.var b 78 x.enc]) [0,1,2,3,4,5,6,7,8,9] [10,11] [12] (by kernel_rfl) (by decide) (by decide +kernel) (fun w' hb => (S.grow hb).keep [true]) ?_; intro w hb; replace S := S.grow hb; clear hb) | refine jq_nil ?_ | refine wj_nil ?_ | (refine g_move ?_; refine st_move rfl ?_) | (refine g_assign ?_; refine st_assign rfl ?_) | (refine g_un ?_; refine st_val rfl (r_not rfl) ?_) | (refine g_load ?_; refine st_val rfl (r_loadA rfl rfl (hG.mono S.below)) ?_) | (refine gj_move ?_; refine jq_val rfl (fun w' hJ => ⟨rfl⟩) ?_) | (refine gj_assign ?_; refine jq_val rfl (fun w' hJ => ⟨rfl⟩) ?_) | (refine gj_nilCheck ?_; refine jq_val rfl (fun w' hJ => r_nilCheck rfl) ?_) | (refine gj_extract ?_; refine jq_val rfl (fun w' hJ => r_extract rfl rfl) ?_) | (refine gj_fieldAddr ?_; refine jq_val rfl (fun w' hJ => r_fieldAddrL rfl) ?_) | (refine gj_load ?_; first | refine jq_val rfl (fun w' hJ => r_loadAt (T.box.mono hJ.below) rfl rfl) ?_ | refine jq_val rfl (fun w' hJ => r_loadVar (i := 0) hJ rfl rfl rfl) ?_) | (refine g_box ?_; refine st_valE rfl (r_box S rfl) ?_; rintro _ w ⟨b, rfl, -, S'⟩; replace S := S'; clear S') | (refine jq_val rfl (fun w' hJ => r_lookupS (k := x.Contract) (eK := eI) (eV := eC) (T.c.mono hJ.below) hc rfl rfl) ?_) | (refine wj_valE rfl (r_alloc S) ?_; rintro _ w ⟨b', rfl, -, S'⟩; refine ⟨S'.keep [true], ?_⟩; replace S := S'; clear S') | (refine wj_skipE rfl (r_storeVar (i := 1) S rfl rfl rfl rfl (of_decide_eq_true rfl) (of_decide_eq_true rfl)) ?_; intro w S'; refine ⟨S'.keep [true], ?_⟩; replace S := S'; clear S'))
    have er : rsnM C Sp Mn Dy x = if n1 c x then 2 else if n2 c x then 3 else if n3 Sp x then 4 else if n4 Mn c then 5 else if n5 Dy c x then 6 else if n6 C Sp c x then 7 else 0 := by unfold rsnM; rw [hc]
    rw [er]; clear er
    refine WP_loop (fun k σ w1 => ∃ (bc bx : Nat) (i : Int), Has σ [(0, .pointer (some ⟨bt, 0, none⟩)), (3, .pointer (some ⟨bx, 0, none⟩)), (5, .pointer (some ⟨bc, 0, none⟩)), (21, .agg tbl.toArray), (22, .int .i64 i)] ∧ St w0 w1 [.var bx 78 x.enc, .var bc 76 c.enc] ∧ 0 ≤ i ∧ i ≤ 8 ∧ (2 < i → n1 c x = false) ∧ (3 < i → n2 c x = false) ∧ (4 < i → n3 Sp x = false) ∧ (5 < i → n4 Mn c = false) ∧ (6 < i → n5 Dy c x = false) ∧ (7 < i → n6 C Sp c x = false) ∧ k = 8 - i.toNat) 8 ⟨_, _, 0, ⟨rfl, rfl, rfl, rfl, rfl, trivial⟩, S, by omega, by omega, by omega, by omega, by omega, by omega, by omega, by omega, rfl⟩ ?_
    clear S
    rintro k σ w1 ⟨bc, bx, i, hs', S, h0, h8, k1, k2, k3, k4, k5, k6, hk⟩
    refine WP_has hs' ?_
    have hi : i = 0 ∨ i = 1 ∨ i = 2 ∨ i = 3 ∨ i = 4 ∨ i = 5 ∨ i = 6 ∨ i = 7 ∨ i = 8 := by omega
    rcases hi with rfl | rfl | rfl | rfl | rfl | rfl | rfl | rfl | rfl
    · repeat' (first | refine WP_seq ?_ | refine WP_region ?_ | refine wl_nil ?_ | refine then_normal ?_ | refine inB_normal ?_ | refine WP_skip ?_ | refine WP_block ?_ | refine WP_condT rfl ?_ | refine WP_condF rfl ?_ | (refine g_guard ?_; refine st_off rfl ?_) | (refine g_move ?_; refine st_move rfl ?_) | (refine g_assign ?_; refine st_assign rfl ?_) | (refine g_pick ?_; refine st_pickF rfl rfl ?_) | (refine g_b_add ?_; (refine st_val rfl (r_addN rfl rfl ?_ ?_) ?_; (first | omega | (simp <;> omega)); (first | omega | (simp <;> omega)))) | (refine g_b_lss ?_; refine st_val rfl (r_lss rfl rfl) ?_) | (refine g_index ?_; (refine st_val rfl (r_indexArr rfl rfl ?_ ?_ rfl) ?_; (first | omega | (simp <;> omega)); (first | omega | (simp <;> omega)))) | (refine st_val rfl (neq_nil rfl rfl) ?_))
      exact ⟨⟨_, by omega, _, _, 1, ⟨rfl, rfl, rfl, rfl, rfl, trivial⟩, S, by omega, by omega, by omega, by omega, by omega, by omega, by omega, by omega, rfl⟩⟩
    · repeat' (first | refine WP_seq ?_ | refine WP_region ?_ | refine wl_nil ?_ | refine then_normal ?_ | refine inB_normal ?_ | refine WP_skip ?_ | refine WP_block ?_ | refine WP_condT rfl ?_ | refine WP_condF rfl ?_ | (refine g_guard ?_; refine st_off rfl ?_) | (refine g_move ?_; refine st_move rfl ?_) | (refine g_assign ?_; refine st_assign rfl ?_) | (refine g_pick ?_; refine st_pickF rfl rfl ?_) | (refine g_b_add ?_; (refine st_val rfl (r_addN rfl rfl ?_ ?_) ?_; (first | omega | (simp <;> omega)); (first | omega | (simp <;> omega)))) | (refine g_b_lss ?_; refine st_val rfl (r_lss rfl rfl) ?_) | (refine g_index ?_; (refine st_val rfl (r_indexArr rfl rfl ?_ ?_ rfl) ?_; (first | omega | (simp <;> omega)); (first | omega | (simp <;> omega)))) | (refine st_val rfl (neq_nil rfl rfl) ?_))
      exact ⟨⟨_, by omega, _, _, 2, ⟨rfl, rfl, rfl, rfl, rfl, trivial⟩, S, by omega, by omega, by omega, by omega, by omega, by omega, by omega, by omega, rfl⟩⟩
    · repeat' (first | refine WP_seq ?_ | refine WP_region ?_ | refine wl_nil ?_ | refine then_normal ?_ | refine inB_normal ?_ | refine then_ret ?_ | refine inB_ret ?_ | refine WP_ret ?_ | refine WP_skip ?_ | refine WP_block ?_ | refine WP_condT rfl ?_ | (refine g_move ?_; refine st_move rfl ?_) | (refine g_assign ?_; refine st_assign rfl ?_) | (refine g_pick ?_; refine st_pickT rfl rfl ?_) | (refine g_b_add ?_; (refine st_val rfl (r_addN rfl rfl ?_ ?_) ?_; (first | omega | (simp <;> omega)); (first | omega | (simp <;> omega)))) | (refine g_b_lss ?_; refine st_val rfl (r_lss rfl rfl) ?_) | (refine g_index ?_; (refine st_val rfl (r_indexArr rfl rfl ?_ ?_ rfl) ?_; (first | omega | (simp <;> omega)); (first | omega | (simp <;> omega)))) | (refine g_load ?_; first | refine st_val rfl (r_loadVarA (i := 0) S rfl rfl rfl rfl) ?_ | refine st_val rfl (r_loadVarA (i := 1) S rfl rfl rfl rfl) ?_) | (refine g_callV ?_; (refine st_callV rfl (r_call3 rfl rfl rfl rfl) (t1_spec) ?_; intro w hb; replace S := S.grow hb; clear hb)) | (refine st_val rfl (neq_fn rfl rfl) ?_) | (refine WP_cond rfl (fun h => ?_) (fun h => ?_) <;> (fail_if_success (have hh : true = true := h)) <;> (fail_if_success (have hh : false = false := h)) <;> (try simp only [decide_eq_true_eq, decide_eq_false_iff_not, Bool.not_eq_true', Bool.not_eq_false', Int.not_lt, Int.not_le] at h) <;> (try (exfalso; omega))))
      · exact end1 rfl rfl ⟨ri (by rw [if_pos h]), S.below⟩
      · exact ⟨⟨_, by omega, _, _, 3, ⟨rfl, rfl, rfl, rfl, rfl, trivial⟩, S, by omega, by omega, fun _ => h, by omega, by omega, by omega, by omega, by omega, rfl⟩⟩
    · have k1 := k1 (by omega)
      repeat' (first | refine WP_seq ?_ | refine WP_region ?_ | refine wl_nil ?_ | refine then_normal ?_ | refine inB_normal ?_ | refine then_ret ?_ | refine inB_ret ?_ | refine WP_ret ?_ | refine WP_skip ?_ | refine WP_block ?_ | refine WP_condT rfl ?_ | (refine g_move ?_; refine st_move rfl ?_) | (refine g_assign ?_; refine st_assign rfl ?_) | (refine g_pick ?_; refine st_pickT rfl rfl ?_) | (refine g_b_add ?_; (refine st_val rfl (r_addN rfl rfl ?_ ?_) ?_; (first | omega | (simp <;> omega)); (first | omega | (simp <;> omega)))) | (refine g_b_lss ?_; refine st_val rfl (r_lss rfl rfl) ?_) | (refine g_index ?_; (refine st_val rfl (r_indexArr rfl rfl ?_ ?_ rfl) ?_; (first | omega | (simp <;> omega)); (first | omega | (simp <;> omega)))) | (refine g_load ?_; first | refine st_val rfl (r_loadVarA (i := 0) S rfl rfl rfl rfl) ?_ | refine st_val rfl (r_loadVarA (i := 1) S rfl rfl rfl rfl) ?_) | (refine g_callV ?_; (refine st_callV rfl (r_call3 rfl rfl rfl rfl) (t2_spec) ?_; intro w hb; replace S := S.grow hb; clear hb)) | (refine st_val rfl (neq_fn rfl rfl) ?_) | (refine WP_cond rfl (fun h => ?_) (fun h => ?_) <;> (fail_if_success (have hh : true = true := h)) <;> (fail_if_success (have hh : false = false := h)) <;> (try simp only [decide_eq_true_eq, decide_eq_false_iff_not, Bool.not_eq_true', Bool.not_eq_false', Int.not_lt, Int.not_le] at h) <;> (try (exfalso; omega))))
      · exact end1 rfl rfl ⟨ri (by rw [k1, if_neg (by decide), if_pos h]), S.below⟩
      · exact ⟨⟨_, by omega, _, _, 4, ⟨rfl, rfl, rfl, rfl, rfl, trivial⟩, S, by omega, by omega, fun _ => k1, fun _ => h, by omega, by omega, by omega, by omega, rfl⟩⟩
    · have k1 := k1 (by omega)
      have k2 := k2 (by omega)
      repeat' (first | refine WP_seq ?_ | refine WP_region ?_ | refine wl_nil ?_ | refine then_normal ?_ | refine inB_normal ?_ | refine then_ret ?_ | refine inB_ret ?_ | refine WP_ret ?_ | refine WP_skip ?_ | refine WP_block ?_ | refine WP_condT rfl ?_ | (refine g_move ?_; refine st_move rfl ?_) | (refine g_assign ?_; refine st_assign rfl ?_) | (refine g_pick ?_; refine st_pickT rfl rfl ?_) | (refine g_b_add ?_; (refine st_val rfl (r_addN rfl rfl ?_ ?_) ?_; (first | omega | (simp <;> omega)); (first | omega | (simp <;> omega)))) | (refine g_b_lss ?_; refine st_val rfl (r_lss rfl rfl) ?_) | (refine g_index ?_; (refine st_val rfl (r_indexArr rfl rfl ?_ ?_ rfl) ?_; (first | omega | (simp <;> omega)); (first | omega | (simp <;> omega)))) | (refine g_load ?_; first | refine st_val rfl (r_loadVarA (i := 0) S rfl rfl rfl rfl) ?_ | refine st_val rfl (r_loadVarA (i := 1) S rfl rfl rfl rfl) ?_) | (refine g_callV ?_; (refine st_callV rfl (r_call3 rfl rfl rfl rfl) (t3_spec (T.mono S.below)) ?_; intro w hb; replace S := S.grow hb; clear hb)) | (refine st_val rfl (neq_fn rfl rfl) ?_) | (refine WP_cond rfl (fun h => ?_) (fun h => ?_) <;> (fail_if_success (have hh : true = true := h)) <;> (fail_if_success (have hh : false = false := h)) <;> (try simp only [decide_eq_true_eq, decide_eq_false_iff_not, Bool.not_eq_true', Bool.not_eq_false', Int.not_lt, Int.not_le] at h) <;> (try (exfalso; omega))))
      · exact end1 rfl rfl ⟨ri (by rw [k1, k2, if_neg (by decide), if_neg (by decide), if_pos h]), S.below⟩
      · exact ⟨⟨_, by omega, _, _, 5, ⟨rfl, rfl, rfl, rfl, rfl, trivial⟩, S, by omega, by omega, fun _ => k1, fun _ => k2, fun _ => h, by omega, by omega, by omega, rfl⟩⟩
    · have k1 := k1 (by omega)
      have k2 := k2 (by omega)
      have k3 := k3 (by omega)
      repeat' (first | refine WP_seq ?_ | refine WP_region ?_ | refine wl_nil ?_ | refine then_normal ?_ | refine inB_normal ?_ | refine then_ret ?_ | refine inB_ret ?_ | refine WP_ret ?_ | refine WP_skip ?_ | refine WP_block ?_ | refine WP_condT rfl ?_ | (refine g_move ?_; refine st_move rfl ?_) | (refine g_assign ?_; refine st_assign rfl ?_) | (refine g_pick ?_; refine st_pickT rfl rfl ?_) | (refine g_b_add ?_; (refine st_val rfl (r_addN rfl rfl ?_ ?_) ?_; (first | omega | (simp <;> omega)); (first | omega | (simp <;> omega)))) | (refine g_b_lss ?_; refine st_val rfl (r_lss rfl rfl) ?_) | (refine g_index ?_; (refine st_val rfl (r_indexArr rfl rfl ?_ ?_ rfl) ?_; (first | omega | (simp <;> omega)); (first | omega | (simp <;> omega)))) | (refine g_load ?_; first | refine st_val rfl (r_loadVarA (i := 0) S rfl rfl rfl rfl) ?_ | refine st_val rfl (r_loadVarA (i := 1) S rfl rfl rfl rfl) ?_) | (refine g_callV ?_; (refine st_callV rfl (r_call3 rfl rfl rfl rfl) (t4_spec (T.mono S.below)) ?_; intro w hb; replace S := S.grow hb; clear hb)) | (refine st_val rfl (neq_fn rfl rfl) ?_) | (refine WP_cond rfl (fun h => ?_) (fun h => ?_) <;> (fail_if_success (have hh : true = true := h)) <;> (fail_if_success (have hh : false = false := h)) <;> (try simp only [decide_eq_true_eq, decide_eq_false_iff_not, Bool.not_eq_true', Bool.not_eq_false', Int.not_lt, Int.not_le] at h) <;> (try (exfalso; omega))))
      · exact end1 rfl rfl ⟨ri (by rw [k1, k2, k3, if_neg (by decide), if_neg (by decide), if_neg (by decide), if_pos h]), S.below⟩
      · exact ⟨⟨_, by omega, _, _, 6, ⟨rfl, rfl, rfl, rfl, rfl, trivial⟩, S, by omega, by omega, fun _ => k1, fun _ => k2, fun _ => k3, fun _ => h, by omega, by omega, rfl⟩⟩
    · have k1 := k1 (by omega)
      have k2 := k2 (by omega)
      have k3 := k3 (by omega)
      have k4 := k4 (by omega)
      repeat' (first | refine WP_seq ?_ | refine WP_region ?_ | refine wl_nil ?_ | refine then_normal ?_ | refine inB_normal ?_ | refine then_ret ?_ | refine inB_ret ?_ | refine WP_ret ?_ | refine WP_skip ?_ | refine WP_block ?_ | refine WP_condT rfl ?_ | (refine g_move ?_; refine st_move rfl ?_) | (refine g_assign ?_; refine st_assign rfl ?_) | (refine g_pick ?_; refine st_pickT rfl rfl ?_) | (refine g_b_add ?_; (refine st_val rfl (r_addN rfl rfl ?_ ?_) ?_; (first | omega | (simp <;> omega)); (first | omega | (simp <;> omega)))) | (refine g_b_lss ?_; refine st_val rfl (r_lss rfl rfl) ?_) | (refine g_index ?_; (refine st_val rfl (r_indexArr rfl rfl ?_ ?_ rfl) ?_; (first | omega | (simp <;> omega)); (first | omega | (simp <;> omega)))) | (refine g_load ?_; first | refine st_val rfl (r_loadVarA (i := 0) S rfl rfl rfl rfl) ?_ | refine st_val rfl (r_loadVarA (i := 1) S rfl rfl rfl rfl) ?_) | (refine g_callV ?_; (refine st_callV rfl (r_call3 rfl rfl rfl rfl) (t5_spec (T.mono S.below) hx.1 hx.2) ?_; intro w hb; replace S := S.grow hb; clear hb)) | (refine st_val rfl (neq_fn rfl rfl) ?_) | (refine WP_cond rfl (fun h => ?_) (fun h => ?_) <;> (fail_if_success (have hh : true = true := h)) <;> (fail_if_success (have hh : false = false := h)) <;> (try simp only [decide_eq_true_eq, decide_eq_false_iff_not, Bool.not_eq_true', Bool.not_eq_false', Int.not_lt, Int.not_le] at h) <;> (try (exfalso; omega))))
      · exact end1 rfl rfl ⟨ri (by rw [k1, k2, k3, k4, if_neg (by decide), if_neg (by decide), if_neg (by decide), if_neg (by decide), if_pos h]), S.below⟩
      · exact ⟨⟨_, by omega, _, _, 7, ⟨rfl, rfl, rfl, rfl, rfl, trivial⟩, S, by omega, by omega, fun _ => k1, fun _ => k2, fun _ => k3, fun _ => k4, fun _ => h, by omega, rfl⟩⟩
    · have k1 := k1 (by omega)
      have k2 := k2 (by omega)
      have k3 := k3 (by omega)
      have k4 := k4 (by omega)
      have k5 := k5 (by omega)
      repeat' (first | refine WP_seq ?_ | refine WP_region ?_ | refine wl_nil ?_ | refine then_normal ?_ | refine inB_normal ?_ | refine then_ret ?_ | refine inB_ret ?_ | refine WP_ret ?_ | refine WP_skip ?_ | refine WP_block ?_ | refine WP_condT rfl ?_ | (refine g_move ?_; refine st_move rfl ?_) | (refine g_assign ?_; refine st_assign rfl ?_) | (refine g_pick ?_; refine st_pickT rfl rfl ?_) | (refine g_b_add ?_; (refine st_val rfl (r_addN rfl rfl ?_ ?_) ?_; (first | omega | (simp <;> omega)); (first | omega | (simp <;> omega)))) | (refine g_b_lss ?_; refine st_val rfl (r_lss rfl rfl) ?_) | (refine g_index ?_; (refine st_val rfl (r_indexArr rfl rfl ?_ ?_ rfl) ?_; (first | omega | (simp <;> omega)); (first | omega | (simp <;> omega)))) | (refine g_load ?_; first | refine st_val rfl (r_loadVarA (i := 0) S rfl rfl rfl rfl) ?_ | refine st_val rfl (r_loadVarA (i := 1) S rfl rfl rfl rfl) ?_) | (refine g_callV ?_; (refine st_callV rfl (r_call3 rfl rfl rfl rfl) (t6_spec (T.mono S.below) hx hs) ?_; intro w hb; replace S := S.grow hb; clear hb)) | (refine st_val rfl (neq_fn rfl rfl) ?_) | (refine WP_cond rfl (fun h => ?_) (fun h => ?_) <;> (fail_if_success (have hh : true = true := h)) <;> (fail_if_success (have hh : false = false := h)) <;> (try simp only [decide_eq_true_eq, decide_eq_false_iff_not, Bool.not_eq_true', Bool.not_eq_false', Int.not_lt, Int.not_le] at h) <;> (try (exfalso; omega))))
      · exact end1 rfl rfl ⟨ri (by rw [k1, k2, k3, k4, k5, if_neg (by decide), if_neg (by decide), if_neg (by decide), if_neg (by decide), if_neg (by decide), if_pos h]), S.below⟩
      · exact ⟨⟨_, by omega, _, _, 8, ⟨rfl, rfl, rfl, rfl, rfl, trivial⟩, S, by omega, by omega, fun _ => k1, fun _ => k2, fun _ => k3, fun _ => k4, fun _ => k5, fun _ => h, rfl⟩⟩
    · repeat' (first | refine WP_seq ?_ | refine WP_region ?_ | refine wl_nil ?_ | refine then_normal ?_ | refine then_exit ?_ | refine inB_here ?_ | refine WP_ret ?_ | refine WP_exit ?_ | refine WP_condF rfl ?_ | (refine g_assign ?_; refine st_assign rfl ?_) | (refine g_b_lss ?_; refine st_val rfl (r_lss rfl rfl) ?_))
      exact end1 rfl rfl ⟨ri (by rw [k1 (by omega), k2 (by omega), k3 (by omega), k4 (by omega), k5 (by omega), k6 (by omega)]; rfl), S.below⟩
end
end Go.Proofs.YtgdmaadikcnagaaDoor
namespace Go.Proofs.YtgdmaadikcnagaaDoor
open Go Go.Gx Go.RowKit
set_option linter.unusedVariables false
set_option linter.unusedSimpArgs false

/-! What a tally holds, of the contracts and of the spots that count. -/
theorem mGet_map {l : List GContract} {id : Int} : mGet id (l.map fun c => (c.ID, c)) = l.find? fun c => decide (c.ID = id) := by
  induction l with
  | nil => rfl
  | cons a l ih =>
    simp only [List.map_cons, mGet, List.find?_cons]
    by_cases h : id = a.ID
    · rw [if_pos h, decide_eq_true h.symm]
    · rw [if_neg h, decide_eq_false (fun e => h e.symm), ih]
theorem mPut_new {K V : Type} [DecidableEq K] {k : K} {v : V} : ∀ {l : List (K × V)}, mGet k l = none → mPut k v l = l ++ [(k, v)]
  | [], _ => rfl
  | x :: r, h => by
    unfold mGet at h
    unfold mPut
    split at h
    · cases h
    · rename_i hk
      rw [if_neg hk, mPut_new h]; rfl
theorem mGet_put {K V : Type} [DecidableEq K] {k k' : K} {v : V} : ∀ {l : List (K × V)}, mGet k' (mPut k v l) = if k' = k then some v else mGet k' l
  | [] => by
    unfold mPut mGet
    split
    · rfl
    · rfl
  | x :: r => by
    have ih := @mGet_put K V _ k k' v r
    unfold mPut
    split
    · rename_i hk
      unfold mGet
      by_cases h : k' = x.1
      · rw [if_pos h, if_pos (h.trans hk.symm)]
      · rw [if_neg h, if_neg (fun e => h (e.trans hk))]
        rw [if_neg h]
    · rename_i hk
      unfold mGet
      by_cases h : k' = x.1
      · rw [if_pos h, if_pos h, if_neg (fun e => hk (e.symm.trans h))]
      · rw [if_neg h, if_neg h, ih]
theorem mGet_bool {l : List GSpot} {x : GSpot} : (mGet x (l.map fun s => (s, true))).getD false = decide (x ∈ l) := by
  induction l with
  | nil => rfl
  | cons a l ih =>
    simp only [List.map_cons, mGet, List.mem_cons]
    by_cases h : x = a
    · rw [if_pos h, decide_eq_true (.inl h)]; rfl
    · rw [if_neg h, ih, decide_eq_decide]
      constructor
      · exact .inr
      · rintro (e | e)
        · exact absurd e h
        · exact e
theorem mGet_bnone {l : List GSpot} {x : GSpot} (h : x ∉ l) : mGet x (l.map fun s => (s, true)) = none := by
  induction l with
  | nil => rfl
  | cons a l ih =>
    simp only [List.map_cons, mGet]
    rw [if_neg (fun e : x = a => h (by rw [e]; exact List.mem_cons_self ..)), ih fun e => h (List.mem_cons_of_mem _ e)]
def cFind (l : List GContract) (id : Int) : Option GContract := l.find? fun c => decide (c.ID = id)
def cntC (cnt : List GSpot) (id : Int) : Int := (cnt.countP fun s => decide (s.Contract = id) : Nat)
def cntD (cnt : List GSpot) (d : GDay) : Int := (cnt.countP fun s => decide (onD s = d) : Nat)
/-- The reason of a spot, by the contracts and the spots that count. -/
def rsn (l : List GContract) (cnt : List GSpot) (x : GSpot) : Int :=
  match cFind l x.Contract with
  | none => 1
  | some c => if n1 c x then 2 else if n2 c x then 3 else if decide (x ∈ cnt) then 4 else if decide (c.Count ≤ cntC cnt x.Contract) then 5 else if decide (c.PerDay ≤ cntD cnt (onD x)) then 6 else if (cnt.any fun s => nearI ((cFind l s.Contract).getD default) c s x.At) then 7 else 0
structure Tal (l : List GContract) (cnt : List GSpot) (C : List (Int × GContract)) (Sp : List (GSpot × Bool)) (Mn : List (Int × Int)) (Dy : List (GDay × Int)) : Prop where
  c : C = l.map fun c => (c.ID, c)
  s : Sp = cnt.map fun s => (s, true)
  m : ∀ id, (mGet id Mn).getD 0 = cntC cnt id
  d : ∀ d, (mGet d Dy).getD 0 = cntD cnt d
theorem cFind_id {l : List GContract} {id : Int} {c : GContract} (h : cFind l id = some c) : c.ID = id := by
  have := List.find?_some h; exact of_decide_eq_true this
theorem cFind_mem {l : List GContract} {id : Int} {c : GContract} (h : cFind l id = some c) : c ∈ l := List.mem_of_find?_eq_some h
theorem Tal.rsn {l : List GContract} {cnt : List GSpot} {C : List (Int × GContract)} {Sp : List (GSpot × Bool)} {Mn : List (Int × Int)} {Dy : List (GDay × Int)} (h : Tal l cnt C Sp Mn Dy) (x : GSpot) : rsnM C Sp Mn Dy x = rsn l cnt x := by
  unfold rsnM Go.Proofs.YtgdmaadikcnagaaDoor.rsn
  have hg : ∀ id, mGet id C = cFind l id := fun id => by rw [h.c, mGet_map]; rfl
  rw [hg]
  cases hc : cFind l x.Contract with
  | none => rfl
  | some c =>
    have e3 : n3 Sp x = decide (x ∈ cnt) := by unfold n3; rw [h.s, mGet_bool]
    have e4 : n4 Mn c = decide (c.Count ≤ cntC cnt x.Contract) := by unfold n4; rw [h.m, cFind_id hc]
    have e5 : n5 Dy c x = decide (c.PerDay ≤ cntD cnt (onD x)) := by unfold n5; rw [h.d]
    have e6 : n6 C Sp c x = cnt.any fun s => nearI ((cFind l s.Contract).getD default) c s x.At := by
      unfold n6; rw [h.s, List.any_map]
      congr 1; funext s; simp only [Function.comp]; rw [hg]
    simp only [e3, e4, e5, e6]
theorem cntC_snoc {cnt : List GSpot} {x : GSpot} {id : Int} : cntC (cnt ++ [x]) id = cntC cnt id + (if x.Contract = id then 1 else 0) := by
  unfold cntC
  rw [List.countP_append, List.countP_singleton]
  by_cases h : x.Contract = id
  · simp [h]
  · simp [h]
theorem cntD_snoc {cnt : List GSpot} {x : GSpot} {d : GDay} : cntD (cnt ++ [x]) d = cntD cnt d + (if onD x = d then 1 else 0) := by
  unfold cntD
  rw [List.countP_append, List.countP_singleton]
  by_cases h : onD x = d
  · simp [h]
  · simp [h]
theorem rsn_fresh {l : List GContract} {cnt : List GSpot} {x : GSpot} (h : rsn l cnt x = 0) : x ∉ cnt := by
  unfold rsn at h
  intro hm
  rw [decide_eq_true hm] at h
  split at h
  · omega
  · (repeat' split at h) <;> first | omega | (simp at *; done)
theorem Tal.step {l : List GContract} {cnt : List GSpot} {C : List (Int × GContract)} {Sp : List (GSpot × Bool)} {Mn : List (Int × Int)} {Dy : List (GDay × Int)} {x : GSpot} (h : Tal l cnt C Sp Mn Dy) (hx : Go.Proofs.YtgdmaadikcnagaaDoor.rsn l cnt x = 0) :
    Tal l (cnt ++ [x]) C (mPut x true Sp) (mPut x.Contract ((mGet x.Contract Mn).getD 0 + 1) Mn) (mPut (onD x) ((mGet (onD x) Dy).getD 0 + 1) Dy) where
  c := h.c
  s := by
    have hn := rsn_fresh hx
    rw [h.s, mPut_new (mGet_bnone hn), List.map_append]; rfl
  m id := by
    rw [mGet_put, cntC_snoc]
    by_cases e : id = x.Contract
    · subst e; rw [if_pos rfl, if_pos rfl, h.m]; rfl
    · rw [if_neg e, if_neg (fun q => e q.symm), h.m]; omega
  d id := by
    rw [mGet_put, cntD_snoc]
    by_cases e : id = onD x
    · subst e; rw [if_pos rfl, if_pos rfl, h.d]; rfl
    · rw [if_neg e, if_neg (fun q => e q.symm), h.d]; omega
theorem Tal.start {l : List GContract} : Tal l [] (l.map fun c => (c.ID, c)) [] [] [] := ⟨rfl, rfl, fun _ => rfl, fun _ => rfl⟩
/-- Contracts ascend. -/
theorem valid_lt {l : List GContract} (h : validC l = true) : ∀ (j i : Int), 0 ≤ i → i < j → j < l.length → (nth l i).ID < (nth l j).ID := by
  intro j i h0 hij hj
  obtain ⟨k, rfl⟩ : ∃ k : Nat, j = i + 1 + k := ⟨(j - i - 1).toNat, by omega⟩
  induction k with
  | zero =>
    have := validC_at h (j := i + 1) (by omega) (by omega)
    unfold okAt at this
    have h2 := of_decide_eq_true (Bool.and_eq_true_iff.1 this).2
    unfold prevC at h2
    rw [if_neg (by omega), show i + 1 - 1 = i by omega] at h2
    simpa using h2
  | succ k ih =>
    have h1 := ih (by omega) (by omega)
    have := validC_at h (j := i + 1 + (k + 1 : Nat)) (by omega) (by omega)
    unfold okAt at this
    have h2 := of_decide_eq_true (Bool.and_eq_true_iff.1 this).2
    unfold prevC at h2
    rw [if_neg (by omega), show i + 1 + ((k + 1 : Nat) : Int) - 1 = i + 1 + (k : Int) by omega] at h2
    omega
theorem valid_ok {l : List GContract} (h : validC l = true) {c : GContract} (hc : c ∈ l) : okC c = true := by
  obtain ⟨j, hj⟩ := List.getElem?_of_mem hc
  have hlt := (List.getElem?_eq_some_iff.1 hj).1
  have h1 := nth_get (l := l) (i := (j : Int)) (by omega) (by omega)
  rw [Int.toNat_natCast, hj] at h1
  cases h1
  have := validC_at h (j := (j : Int)) (by omega) (by omega)
  unfold okAt at this
  exact (Bool.and_eq_true_iff.1 this).1
theorem take_none {l : List GContract} (h : validC l = true) {i : Int} (h0 : 0 ≤ i) (hi : i < l.length) : mGet (nth l i).ID ((l.take i.toNat).map fun c => (c.ID, c)) = none := by
  rw [mGet_map, List.find?_eq_none]
  intro c hc
  obtain ⟨j, hj⟩ := List.getElem?_of_mem hc
  have hlt := (List.getElem?_eq_some_iff.1 hj).1
  rw [List.length_take] at hlt
  rw [List.getElem?_take_of_lt (by omega)] at hj
  have h1 := nth_get (l := l) (i := (j : Int)) (by omega) (by omega)
  rw [Int.toNat_natCast, hj] at h1
  cases h1
  have := valid_lt h i j (by omega) (by omega) hi
  simp; omega
theorem take_put {l : List GContract} (h : validC l = true) {i : Int} (h0 : 0 ≤ i) (hi : i < l.length) : mPut (nth l i).ID (nth l i) ((l.take i.toNat).map fun c => (c.ID, c)) = (l.take (i + 1).toNat).map fun c => (c.ID, c) := by
  rw [mPut_new (take_none h h0 hi), show (i + 1).toNat = i.toNat + 1 by omega, List.take_add_one, nth_get h0 hi, List.map_append]; rfl
/-- The order in which spots are gone through. -/
structure Ord (sp : List GSpot) (turn : List Int) : Prop where
  perm : turn.Perm (tab (fun k => (k : Int)) sp.length)
  pw : turn.Pairwise (RS (cS sp))
theorem Ord.uniq {sp : List GSpot} {a b : List Int} (ha : Ord sp a) (hb : Ord sp b) : a = b := rs_uniq (cS_sw sp) (ha.perm.trans hb.perm.symm) ha.pw hb.pw
def spAt (sp : List GSpot) (out : List Int) : List GSpot := out.map fun i => nth sp i
/-- One spot more is gone through. -/
def stepO (l : List GContract) (sp : List GSpot) (out : List Int) (i : Int) : List Int := if rsn l (spAt sp out) (nth sp i) = 0 then out ++ [i] else out
def outOf (l : List GContract) (sp : List GSpot) (turn : List Int) : List Int := turn.foldl (stepO l sp) []
end Go.Proofs.YtgdmaadikcnagaaDoor
namespace Go.Proofs.YtgdmaadikcnagaaDoor
open Go Go.Gx Go.RowKit
set_option linter.unusedVariables false
set_option linter.unusedSimpArgs false

theorem valid_is {v : Value} {l : List GContract} {b : Bool} {w0 : World} (h : validC l = b) (hr : Rd fGContract.ty w0 v l) (hl : l.length ≤ 1000000000) : CallsV Tryd.prog 58 #[v] w0 (.bool b) := by rw [← h]; exact valid_spec hr hl
theorem validSpots_is {v : Value} {l : List GSpot} {b : Bool} {w0 : World} (h : validP l = b) (hr : Rd fGSpot.ty w0 v l) (hl : l.length ≤ 1000000000) : CallsV Tryd.prog 59 #[v] w0 (.bool b) := by rw [← h]; exact validSpots_spec hr hl
theorem validP_len {sp : List GSpot} (h : validP sp = true) : sp.length ≤ 60 := of_decide_eq_true (Bool.and_eq_true_iff.1 h).1
theorem validP_at {sp : List GSpot} (h : validP sp = true) {x : GSpot} (hx : x ∈ sp) : 0 ≤ x.Contract ∧ x.Contract ≤ 99 ∧ 0 ≤ x.At ∧ x.At ≤ 9999999 := of_decide_eq_true (List.all_eq_true.1 (Bool.and_eq_true_iff.1 h).2 x hx)
theorem tab_id_take {n : Nat} {i : Int} (h0 : 0 ≤ i) (hi : i < n) : tab idf i.toNat ++ [i] = tab idf (i + 1).toNat := by
  rw [show (i + 1).toNat = i.toNat + 1 by omega]
  unfold tab
  rw [List.range_succ, List.map_append]
  congr 1
  simp only [List.map_cons, List.map_nil, idf, List.cons.injEq, and_true]; omega
theorem foldl_at {l : List GContract} {sp : List GSpot} {turn : List Int} {i : Int} (h0 : 0 ≤ i) (hi : i < turn.length) : outOf l sp (turn.take (i + 1).toNat) = stepO l sp (outOf l sp (turn.take i.toNat)) (nth turn i) := by
  rw [show (i + 1).toNat = i.toNat + 1 by omega, List.take_add_one, nth_get h0 hi]
  unfold outOf
  rw [List.foldl_append]; rfl
theorem Ord.len {sp : List GSpot} {turn : List Int} (h : Ord sp turn) : turn.length = sp.length := by rw [h.perm.length_eq, tab_len]
theorem Ord.mem {sp : List GSpot} {turn : List Int} (h : Ord sp turn) {x : Int} (hx : x ∈ turn) : 0 ≤ x ∧ x < sp.length := by
  have := h.perm.mem_iff.1 hx
  unfold tab at this
  obtain ⟨k, hk, rfl⟩ := List.mem_map.1 this
  have := List.mem_range.1 hk; omega
theorem stepO_len {l : List GContract} {sp : List GSpot} {out : List Int} {i : Int} : (stepO l sp out i).length ≤ out.length + 1 := by
  unfold stepO; split
  · simp
  · omega
theorem outOf_len {l : List GContract} {sp : List GSpot} (turn : List Int) : (outOf l sp turn).length ≤ turn.length := by
  have key : ∀ (t : List Int) (o : List Int), (t.foldl (stepO l sp) o).length ≤ o.length + t.length := by
    intro t
    induction t with
    | nil => intro o; simp
    | cons a t ih => intro o; have := ih (stepO l sp o a); have := @stepO_len l sp o a; simp only [List.foldl_cons, List.length_cons]; omega
  have := key turn []; simpa [outOf] using this
theorem outOf_mem {l : List GContract} {sp : List GSpot} {turn : List Int} {x : Int} (hx : x ∈ outOf l sp turn) : x ∈ turn := by
  have key : ∀ (t : List Int) (o : List Int), x ∈ t.foldl (stepO l sp) o → x ∈ o ∨ x ∈ t := by
    intro t
    induction t with
    | nil => intro o h; exact .inl h
    | cons a t ih =>
      intro o h
      rcases ih _ h with h | h
      · unfold stepO at h
        split at h
        · rcases List.mem_append.1 h with h | h
          · exact .inl h
          · rw [List.mem_singleton.1 h]; exact .inr (List.mem_cons_self ..)
        · exact .inl h
      · exact .inr (List.mem_cons_of_mem _ h)
  rcases key turn [] hx with h | h
  · cases h
  · exact h
theorem count_no {l : List GContract} {sp : List GSpot} {v1 v2 : Value} {w0 : World} (hr1 : Rd fGContract.ty w0 v1 l) (hr2 : Rd fGSpot.ty w0 v2 sp) (hl : l.length ≤ 1000000000) (hl2 : sp.length ≤ 1000000000) (hv : ¬ (validC l = true ∧ validP sp = true)) :
    CallsV Tryd.prog 43 #[v1, v2] w0 (.tuple #[.pointer none, .slice none 0 0, .int .i64 120]) := by
  have S := St.start w0
  obtain ⟨A, c, rfl⟩ := hr1.len
  obtain ⟨A2, c2, rfl⟩ := hr2.len
  refine CallsV.mk ?_
  refine calls_enter Tryd.func43 rfl (by intro _ h; first | exact nomatch h.1 | (obtain ⟨_, h, _⟩ := h; exact nomatch h)) Tryd.ntmps43 rfl ?_
  by_cases h1 : validC l = true
  · have h2 : validP sp = false := by
      cases h : validP sp with
      | false => rfl
      | true => exact absurd ⟨h1, h⟩ hv
    repeat' (first | refine WP_seq ?_ | refine WP_region ?_ | refine wl_nil ?_ | refine then_normal ?_ | refine then_ret ?_ | refine WP_ret ?_ | refine WP_condT rfl ?_ | (refine g_move ?_; refine st_move rfl ?_) | (refine g_assign ?_; refine st_assign rfl ?_) | (refine g_pick ?_; refine st_pickF rfl rfl ?_) | (refine g_un ?_; refine st_val rfl (r_not rfl) ?_) | (refine g_load ?_; refine st_val rfl (r_loadVar (i := 0) S rfl rfl rfl) ?_) | (refine g_callV ?_; first | (refine st_callV rfl (r_call1 rfl rfl) (valid_is h1 (hr1.mono S.below) hl) ?_; intro w hb; replace S := S.grow hb; clear hb) | (refine st_callV rfl (r_call1 rfl rfl) (validSpots_is h2 (hr2.mono S.below) hl2) ?_; intro w hb; replace S := S.grow hb; clear hb)) | (refine g_box ?_; refine st_valE rfl (r_box S rfl) ?_; rintro _ w ⟨b, rfl, -, S'⟩; replace S := S'; clear S'))
    exact end3 rfl rfl rfl rfl ⟨rfl, S.below⟩
  · have h1 : validC l = false := by simpa using h1
    repeat' (first | refine WP_seq ?_ | refine WP_region ?_ | refine wl_nil ?_ | refine then_normal ?_ | refine then_ret ?_ | refine WP_ret ?_ | refine WP_condT rfl ?_ | (refine g_guard ?_; refine st_off rfl ?_) | (refine g_move ?_; refine st_move rfl ?_) | (refine g_assign ?_; refine st_assign rfl ?_) | (refine g_pick ?_; refine st_pickT rfl rfl ?_) | (refine g_un ?_; refine st_val rfl (r_not rfl) ?_) | (refine g_callV ?_; (refine st_callV rfl (r_call1 rfl rfl) (valid_is h1 (hr1.mono S.below) hl) ?_; intro w hb; replace S := S.grow hb; clear hb)) | (refine g_box ?_; refine st_valE rfl (r_box S rfl) ?_; rintro _ w ⟨b, rfl, -, S'⟩; replace S := S'; clear S'))
    exact end3 rfl rfl rfl rfl ⟨rfl, S.below⟩
end Go.Proofs.YtgdmaadikcnagaaDoor
namespace Go.Proofs.YtgdmaadikcnagaaDoor
open Go Go.Gx Go.RowKit
set_option linter.unusedVariables false
set_option linter.unusedSimpArgs false

abbrev cM (l : List GContract) : List (Int × GContract) := l.map fun c => (c.ID, c)
/-- What count hands back. -/
def CountR (l : List GContract) (sp : List GSpot) (w0 : World) (r : Value) (w' : World) : Prop :=
  ∃ (bt b1 b2 b3 b4 : Nat) (Sp : List (GSpot × Bool)) (Mn : List (Int × Int)) (Dy : List (GDay × Int)) (vo : Value) (turn : List Int), Ord sp turn ∧ r = .tuple #[.pointer (some ⟨bt, 0, none⟩), vo, .int .i64 0] ∧ Tal l (spAt sp (outOf l sp turn)) (cM l) Sp Mn Dy ∧
    St w0 w' [mapOb eI eC b1 (cM l), mapOb eP eB b2 Sp, mapOb eI eI b3 Mn, mapOb eD eI b4 Dy, .var bt 134 [.map (some b1), .map (some b2), .map (some b3), .map (some b4)], rowOb (fInt .i64) 3 vo (outOf l sp turn)]
theorem spAt_mem {sp : List GSpot} {turn : List Int} {l : List GContract} (h : ∀ x ∈ turn, 0 ≤ x ∧ x < sp.length) : ∀ s ∈ spAt sp (outOf l sp turn), s ∈ sp := by
  intro s hs
  obtain ⟨i, hi, rfl⟩ := List.mem_map.1 hs
  have := h i (outOf_mem hi)
  exact nth_mem this.1 this.2
theorem talAt_of {w0 w : World} {bt b1 b2 b3 b4 : Nat} {C : List (Int × GContract)} {Sp : List (GSpot × Bool)} {Mn : List (Int × Int)} {Dy : List (GDay × Int)} {o0 o1 : Ob} {ex : List Ob} (S : St w0 w (o0 :: o1 :: mapOb eI eC b1 C :: mapOb eP eB b2 Sp :: mapOb eI eI b3 Mn :: mapOb eD eI b4 Dy :: .var bt 134 [.map (some b1), .map (some b2), .map (some b3), .map (some b4)] :: ex)) : TalAt w bt b1 b2 b3 b4 C Sp Mn Dy :=
  ⟨S.var (i := 6) rfl, S.mapAt (i := 2) rfl, S.mapAt (i := 3) rfl, S.mapAt (i := 4) rfl, S.mapAt (i := 5) rfl⟩
theorem reason_is {w0 : World} {bt b1 b2 b3 b4 : Nat} {C : List (Int × GContract)} {Sp : List (GSpot × Bool)} {Mn : List (Int × Int)} {Dy : List (GDay × Int)} {x : GSpot} {z : Int} (hz : rsnM C Sp Mn Dy x = z) (T : TalAt w0 bt b1 b2 b3 b4 C Sp Mn Dy) (hG : TblAt w0) (hx : 0 ≤ x.At ∧ x.At ≤ 9999999) (hs : ∀ s ∈ Sp, 0 ≤ s.1.At ∧ s.1.At ≤ 9999999) : CallsV Tryd.prog 63 #[.pointer (some ⟨bt, 0, none⟩), .agg x.enc.toArray] w0 (.int .i64 z) := by
  rw [← hz]; exact reason_spec T hG hx hs
theorem touch_get {K : Type} [DecidableEq K] {k : K} {l : List (K × Int)} : (mGet k (mTouch k 0 l)).getD 0 = (mGet k l).getD 0 := by
  unfold mTouch
  cases h : mGet k l with
  | some x => rw [h]
  | none =>
    rw [mGet_append, h]
    simp [mGet]
theorem cntC_le {cnt : List GSpot} {id : Int} : 0 ≤ cntC cnt id ∧ cntC cnt id ≤ cnt.length := by
  unfold cntC; have := List.countP_le_length (p := fun s : GSpot => decide (s.Contract = id)) (l := cnt); omega
theorem cntD_le {cnt : List GSpot} {d : GDay} : 0 ≤ cntD cnt d ∧ cntD cnt d ≤ cnt.length := by
  unfold cntD; have := List.countP_le_length (p := fun s : GSpot => decide (onD s = d)) (l := cnt); omega
set_option maxHeartbeats 2000000 in
theorem count_ok {l : List GContract} {sp : List GSpot} {v1 v2 : Value} {w0 : World} (hr1 : Rd fGContract.ty w0 v1 l) (hr2 : Rd fGSpot.ty w0 v2 sp) (h1 : validC l = true) (h2 : validP sp = true) (hG : TblAt w0) :
    CallsR Tryd.prog 43 #[v1, v2] w0 (CountR l sp w0) := by
  have S := St.start w0
  have hl := validC_len h1
  have hl2 := validP_len h2
  obtain ⟨A, c, rfl⟩ := hr1.len
  obtain ⟨A2, c2, rfl⟩ := hr2.len
  refine CallsR.mk ?_
  refine calls_enter Tryd.func43 rfl (by intro _ h; first | exact nomatch h.1 | (obtain ⟨_, h, _⟩ := h; exact nomatch h)) Tryd.ntmps43 rfl ?_
  repeat' (first | refine WP_seq ?_ | refine WP_region ?_ | refine wl_nil ?_ | refine then_normal ?_ | refine WP_skip ?_ | refine WP_condF rfl ?_ | (refine g_move ?_; refine st_move rfl ?_) | (refine g_assign ?_; refine st_assign rfl ?_) | (refine g_pick ?_; refine st_pickF rfl rfl ?_) | (refine g_un ?_; refine st_val rfl (r_not rfl) ?_) | (refine g_load ?_; refine st_val rfl (r_loadVar (i := 0) S rfl rfl rfl) ?_) | (refine g_callV ?_; first | (refine st_callV rfl (r_call1 rfl rfl) (valid_is h1 (hr1.mono S.below) (by omega)) ?_; intro w hb; replace S := S.grow hb; clear hb) | (refine st_callV rfl (r_call1 rfl rfl) (validSpots_is h2 (hr2.mono S.below) (by omega)) ?_; intro w hb; replace S := S.grow hb; clear hb)) | (refine g_box ?_; refine st_valE rfl (r_box S rfl) ?_; rintro _ w ⟨b, rfl, -, S'⟩; replace S := S'; clear S'))
  obtain ⟨bs, rfl⟩ : ∃ x, x = b := ⟨_, rfl⟩
  refine st_valE rfl (r_makeMap (eK := eI) (eV := eC) S) ?_
  rintro _ w ⟨b1, rfl, -, S'⟩; replace S := S'; clear S'
  refine st_valE rfl (r_makeMap (eK := eP) (eV := eB) S) ?_
  rintro _ w ⟨b2, rfl, -, S'⟩; replace S := S'; clear S'
  refine st_valE rfl (r_makeMap (eK := eI) (eV := eI) S) ?_
  rintro _ w ⟨b3, rfl, -, S'⟩; replace S := S'; clear S'
  refine st_valE rfl (r_makeMap (eK := eD) (eV := eI) S) ?_
  rintro _ w ⟨b4, rfl, -, S'⟩; replace S := S'; clear S'
  repeat' (first | refine WP_seq ?_ | refine WP_region ?_ | refine wl_nil ?_ | refine then_normal ?_ | refine WP_block ?_ | (refine g_move ?_; refine st_move rfl ?_) | (refine g_assign ?_; refine st_assign rfl ?_) | (refine g_build ?_; refine st_val rfl (bd134_0_1_2_3 rfl rfl rfl rfl) ?_) | (refine g_c_len ?_; refine st_val rfl (r_lenSlice rfl) ?_) | (refine g_box ?_; refine st_valE rfl (r_box S rfl) ?_; rintro _ w ⟨b, rfl, -, S'⟩; replace S := S'; clear S'))
  obtain ⟨bt, rfl⟩ : ∃ x, x = b := ⟨_, rfl⟩
  refine WP_loop (fun k σ w1 => ∃ (i : Int), Has σ [(3, .pointer (some ⟨bs, 0, none⟩)), (7, .pointer (some ⟨bt, 0, none⟩)), (30, .slice A l.length c), (31, .int .i64 l.length), (32, .int .i64 i)] ∧ St w0 w1 [.var bs 64 [.slice A2 sp.length c2], mapOb eI eC b1 (cM (l.take i.toNat)), mapOb eP eB b2 [], mapOb eI eI b3 [], mapOb eD eI b4 [], .var bt 134 [.map (some b1), .map (some b2), .map (some b3), .map (some b4)]] ∧ 0 ≤ i ∧ i ≤ l.length ∧ k = l.length - i.toNat) l.length ⟨0, ⟨rfl, rfl, rfl, rfl, rfl, trivial⟩, S, by omega, by omega, by omega⟩ ?_
  clear S
  rintro k σ w1 ⟨i, hs, S, hi0, hi1, hk⟩
  refine WP_has hs ?_
  by_cases hi : i < l.length
  · repeat' (first | refine WP_seq ?_ | refine WP_region ?_ | refine wl_nil ?_ | refine then_normal ?_ | refine inB_normal ?_ | refine WP_skip ?_ | refine WP_block ?_ | refine WP_drawTail 7 (by kernel_rfl) (by decide +kernel) ?_ | (refine ql_nil ?_; intro w hb; replace S := S.grow hb; clear hb) | (refine g_move ?_; refine st_move rfl ?_) | (refine g_b_add ?_; (refine st_val rfl (r_addN rfl rfl ?_ ?_) ?_; (first | omega | (simp <;> omega)); (first | omega | (simp <;> omega)))) | (refine g_b_lss ?_; refine st_val rfl (r_lss rfl rfl) ?_) | (refine g_indexAddr ?_; (refine st_val rfl (r_indexAddr (hr1.mono S.below) rfl rfl ?_ ?_) ?_; (first | omega | (simp <;> omega)); (first | omega | (simp <;> omega)))) | (refine g_load ?_; (refine st_val rfl (r_loadElem (hr1.mono S.below) rfl ?_ ?_) ?_; (first | omega | (simp <;> omega)); (first | omega | (simp <;> omega)))) | (refine gq_move ?_; refine q_move rfl ?_) | (refine gq_nilCheck ?_; refine q_val rfl (fun w' hb => r_nilCheck rfl) ?_) | (refine gq_fieldAddr ?_; refine q_val rfl (fun w' hb => r_fieldAddrL rfl) ?_) | (refine gq_load ?_; first | refine q_val rfl (fun w' hb => r_loadVar (i := 5) (S.grow hb) rfl rfl rfl) ?_ | refine q_val rfl (fun w' hb => r_loadVar (i := 6) (S.grow hb) rfl rfl rfl) ?_ | refine q_val rfl (fun w' hb => r_loadVarA (i := 6) (S.grow hb) rfl rfl rfl rfl) ?_) | (refine g_alloc ?_; refine st_valE rfl (r_alloc S) ?_; rintro _ w ⟨b, rfl, -, S'⟩; replace S := S'; clear S') | (refine g_store ?_; first | (refine st_skipE rfl (r_storeVar (i := 0) S rfl rfl rfl rfl (of_decide_eq_true rfl) (of_decide_eq_true rfl)) ?_; intro w S'; replace S := S'; clear S') | (refine st_skipE rfl (r_storeVar (i := 1) S rfl rfl rfl rfl (of_decide_eq_true rfl) (of_decide_eq_true rfl)) ?_; intro w S'; replace S := S'; clear S') | (refine st_skipE rfl (r_storeVar (i := 2) S rfl rfl rfl rfl (of_decide_eq_true rfl) (of_decide_eq_true rfl)) ?_; intro w S'; replace S := S'; clear S') | (refine st_skipE rfl (r_storeVar (i := 3) S rfl rfl rfl rfl (of_decide_eq_true rfl) (of_decide_eq_true rfl)) ?_; intro w S'; replace S := S'; clear S') | (refine st_skipE rfl (r_storeVar (i := 4) S rfl rfl rfl rfl (of_decide_eq_true rfl) (of_decide_eq_true rfl)) ?_; intro w S'; replace S := S'; clear S') | (refine st_skipE rfl (r_storeVar (i := 5) S rfl rfl rfl rfl (of_decide_eq_true rfl) (of_decide_eq_true rfl)) ?_; intro w S'; replace S := S'; clear S') | (refine st_skipE rfl (r_storeVar (i := 6) S rfl rfl rfl rfl (of_decide_eq_true rfl) (of_decide_eq_true rfl)) ?_; intro w S'; replace S := S'; clear S')) | (refine st_skipE rfl (r_mapUpdate (i := 1) (eK := eI) (eV := eC) (k := (nth l i).ID) (v := nth l i) S rfl rfl rfl rfl) ?_; intro w S'; replace S := S'; clear S') | (refine WP_cond rfl (fun h => ?_) (fun h => ?_) <;> (fail_if_success (have hh : true = true := h)) <;> (fail_if_success (have hh : false = false := h)) <;> (try simp only [decide_eq_true_eq, decide_eq_false_iff_not, Bool.not_eq_true', Bool.not_eq_false', Int.not_lt, Int.not_le] at h) <;> (try (exfalso; omega))))
    rw [take_put h1 hi0 hi] at S
    refine ⟨⟨_, ?_, i + 1, ⟨rfl, rfl, rfl, rfl, rfl, trivial⟩, S.keep [true, true, true, true, true, true], by omega, by omega, rfl⟩⟩
    omega
  have hil : i.toNat = l.length := by omega
  rw [hil, List.take_length] at S
  repeat' (first | refine WP_seq ?_ | refine WP_region ?_ | refine wl_nil ?_ | refine then_normal ?_ | refine then_exit ?_ | refine inB_here ?_ | refine WP_exit ?_ | refine WP_block ?_ | (refine g_move ?_; refine st_move rfl ?_) | (refine g_assign ?_; refine st_assign rfl ?_) | (refine g_b_lss ?_; refine st_val rfl (r_lss rfl rfl) ?_) | (refine g_c_len ?_; refine st_val rfl (r_lenSlice rfl) ?_) | (refine g_load ?_; refine st_val rfl (r_loadVar (i := 0) S rfl rfl rfl) ?_) | (refine WP_cond rfl (fun h => ?_) (fun h => ?_) <;> (fail_if_success (have hh : true = true := h)) <;> (fail_if_success (have hh : false = false := h)) <;> (try simp only [decide_eq_true_eq, decide_eq_false_iff_not, Bool.not_eq_true', Bool.not_eq_false', Int.not_lt, Int.not_le] at h) <;> (try (exfalso; omega))))
  replace S := (S.nilRow (fInt .i64) 3).nilRow (fInt .i64) 3
  refine WP_loop (fun k σ w1 => ∃ (i : Int) (vt : Value), Has σ [(3, .pointer (some ⟨bs, 0, none⟩)), (7, .pointer (some ⟨bt, 0, none⟩)), (10, vt), (11, .slice none 0 0), (45, .int .i64 sp.length), (46, .int .i64 i)] ∧ St w0 w1 [.var bs 64 [.slice A2 sp.length c2], mapOb eI eC b1 (cM l), mapOb eP eB b2 [], mapOb eI eI b3 [], mapOb eD eI b4 [], .var bt 134 [.map (some b1), .map (some b2), .map (some b3), .map (some b4)], rowOb (fInt .i64) 3 vt (tab idf i.toNat), rowOb (fInt .i64) 3 (.slice none 0 0) []] ∧ 0 ≤ i ∧ i ≤ sp.length ∧ k = sp.length - i.toNat) sp.length ⟨0, _, ⟨rfl, rfl, rfl, rfl, rfl, rfl, trivial⟩, S, by omega, by omega, by omega⟩ ?_
  clear S hs
  rintro k σ w1 ⟨i, vt, hs, S, hi0, hi1, hk⟩
  refine WP_has hs ?_
  by_cases hi : i < sp.length
  · have hlen := @tab_len idf i.toNat
    repeat' (first | refine WP_seq ?_ | refine WP_region ?_ | refine wl_nil ?_ | refine then_normal ?_ | refine WP_skip ?_ | refine WP_block ?_ | (refine g_move ?_; refine st_move rfl ?_) | (refine g_assign ?_; refine st_assign rfl ?_) | (refine g_b_lss ?_; refine st_val rfl (r_lss rfl rfl) ?_) | (refine WP_cond rfl (fun h => ?_) (fun h => ?_) <;> (fail_if_success (have hh : true = true := h)) <;> (fail_if_success (have hh : false = false := h)) <;> (try simp only [decide_eq_true_eq, decide_eq_false_iff_not, Bool.not_eq_true', Bool.not_eq_false', Int.not_lt, Int.not_le] at h) <;> (try (exfalso; omega))))
    refine st_valE rfl (r_litF (D := fInt .i64) [i] (Value.int .i64) S rfl rfl (fun _ => rfl) rfl (by decide) (by decide)) ?_
    rintro _ w ⟨bl, rfl, -, hcl, S'⟩; replace S := S'; clear S'
    refine st_valE rfl (r_append1 (D := fInt .i64) (i := 6) (b := bl) (x := i) S rfl rfl rfl (fl_one hcl) rfl (by decide) (of_decide_eq_true rfl) (by omega) (by omega)) ?_
    rintro vt' w ⟨-, S'⟩; replace S := S'; clear S' hcl
    rw [tab_id_take (n := sp.length) hi0 hi] at S
    repeat' (first | refine WP_region ?_ | refine wl_nil ?_ | refine then_normal ?_ | refine inB_normal ?_ | (refine g_move ?_; refine st_move rfl ?_) | (refine g_assign ?_; refine st_assign rfl ?_) | (refine g_b_add ?_; (refine st_val rfl (r_addN rfl rfl ?_ ?_) ?_; (first | omega | (simp <;> omega)); (first | omega | (simp <;> omega)))))
    refine ⟨⟨_, ?_, i + 1, vt', ⟨rfl, rfl, rfl, rfl, rfl, rfl, trivial⟩, S.keep [true, true, true, true, true, true, true, true], by omega, by omega, rfl⟩⟩
    omega
  have hin : i.toNat = sp.length := by omega
  rw [hin] at S
  repeat' (first | refine WP_seq ?_ | refine WP_region ?_ | refine wl_nil ?_ | refine then_normal ?_ | refine then_exit ?_ | refine inB_here ?_ | refine WP_exit ?_ | (refine g_move ?_; refine st_move rfl ?_) | (refine g_b_lss ?_; refine st_val rfl (r_lss rfl rfl) ?_) | (refine g_makeFunc ?_; refine st_val rfl (r_makeFn1 rfl) ?_) | (refine WP_cond rfl (fun h => ?_) (fun h => ?_) <;> (fail_if_success (have hh : true = true := h)) <;> (fail_if_success (have hh : false = false := h)) <;> (try simp only [decide_eq_true_eq, decide_eq_false_iff_not, Bool.not_eq_true', Bool.not_eq_false', Int.not_lt, Int.not_le] at h) <;> (try (exfalso; omega))))
  replace S : St w0 w1 (rowT vt idf sp.length :: .var bs 64 [.slice A2 sp.length c2] :: [mapOb eI eC b1 (cM l), mapOb eP eB b2 [], mapOb eI eI b3 [], mapOb eD eI b4 [], .var bt 134 [.map (some b1), .map (some b2), .map (some b3), .map (some b4)], rowOb (fInt .i64) 3 (.slice none 0 0) []]) := S.perm (List.perm_middle (l₁ := [_, _, _, _, _, _]))
  refine st_callW rfl (r_call2 rfl rfl rfl) (sort_run S hr2 rfl (by omega)) ?_
  rintro u w ⟨g, hgp, hgw, S'⟩
  replace S := S'; clear S'
  obtain ⟨turn, ht⟩ : ∃ turn, tab g sp.length = turn := ⟨_, rfl⟩
  have hO : Ord sp turn := ⟨by rw [← ht]; exact hgp, by rw [← ht]; exact hgw⟩
  replace S : St w0 w [rowOb (fInt .i64) 3 vt turn, .var bs 64 [.slice A2 sp.length c2], mapOb eI eC b1 (cM l), mapOb eP eB b2 [], mapOb eI eI b3 [], mapOb eD eI b4 [], .var bt 134 [.map (some b1), .map (some b2), .map (some b3), .map (some b4)], rowOb (fInt .i64) 3 (.slice none 0 0) []] := by rw [← ht]; exact S
  have hOl := hO.len
  obtain ⟨A3, c3, hz⟩ := (S.rdRow (D := fInt .i64) (i := 0) rfl).len; subst hz
  repeat' (first | refine WP_seq ?_ | refine WP_region ?_ | refine wl_nil ?_ | refine then_normal ?_ | refine WP_block ?_ | (refine g_move ?_; refine st_move rfl ?_) | (refine g_c_len ?_; refine st_val rfl (r_lenSlice rfl) ?_))
  refine WP_loop (fun k σ w1 => ∃ (i : Int) (vo : Value) (Sp : List (GSpot × Bool)) (Mn : List (Int × Int)) (Dy : List (GDay × Int)) (out : List Int), Has σ [(3, .pointer (some ⟨bs, 0, none⟩)), (7, .pointer (some ⟨bt, 0, none⟩)), (11, vo), (57, .slice A3 turn.length c3), (58, .int .i64 turn.length), (59, .int .i64 i)] ∧ St w0 w1 [rowOb (fInt .i64) 3 (.slice A3 turn.length c3) turn, .var bs 64 [.slice A2 sp.length c2], mapOb eI eC b1 (cM l), mapOb eP eB b2 Sp, mapOb eI eI b3 Mn, mapOb eD eI b4 Dy, .var bt 134 [.map (some b1), .map (some b2), .map (some b3), .map (some b4)], rowOb (fInt .i64) 3 vo out] ∧ 0 ≤ i ∧ i ≤ turn.length ∧ out = outOf l sp (turn.take i.toNat) ∧ Tal l (spAt sp out) (cM l) Sp Mn Dy ∧ k = turn.length - i.toNat) turn.length ⟨0, _, [], [], [], [], ⟨rfl, rfl, rfl, rfl, rfl, rfl, trivial⟩, S, by omega, by omega, rfl, Tal.start, by omega⟩ ?_
  clear S hs
  rintro k σ w1 ⟨i, vo, Sp, Mn, Dy, out, hs, S, hi0, hi1, hout, hT, hk⟩
  refine WP_has hs ?_
  have hol : out.length ≤ 60 := by
    have := outOf_len (l := l) (sp := sp) (turn.take i.toNat)
    rw [List.length_take] at this; rw [hout]; omega
  have hmem : ∀ s ∈ spAt sp out, s ∈ sp := by
    rw [hout]; exact spAt_mem fun x hx => hO.mem (List.mem_of_mem_take hx)
  have hsl : (spAt sp out).length ≤ 60 := by unfold spAt; rw [List.length_map]; exact hol
  by_cases hi : i < turn.length
  · obtain ⟨j, hj⟩ : ∃ j, nth turn i = j := ⟨_, rfl⟩
    have hjr := hO.mem (nth_mem hi0 hi)
    rw [hj] at hjr
    obtain ⟨x, hx⟩ : ∃ x, nth sp j = x := ⟨_, rfl⟩
    have hxs : x ∈ sp := by rw [← hx]; exact nth_mem hjr.1 hjr.2
    have hxr := validP_at h2 hxs
    have hsr : ∀ s ∈ Sp, 0 ≤ s.1.At ∧ s.1.At ≤ 9999999 := by
      intro s hs
      rw [hT.s] at hs
      obtain ⟨y, hy, rfl⟩ := List.mem_map.1 hs
      exact (validP_at h2 (hmem y hy)).2.2
    have hr := hT.rsn x
    have hstep : outOf l sp (turn.take (i + 1).toNat) = if rsn l (spAt sp out) x = 0 then out ++ [j] else out := by
      rw [foldl_at hi0 hi, hj, ← hout]; unfold stepO; rw [hx]
    subst hx
    subst hj
    have hcm := hT.m (nth sp (nth turn i)).Contract
    have hcr := @cntC_le (spAt sp out) (nth sp (nth turn i)).Contract
    have hcd := hT.d (onD (nth sp (nth turn i)))
    have hdr := @cntD_le (spAt sp out) (onD (nth sp (nth turn i)))
    by_cases h0 : rsn l (spAt sp out) (nth sp (nth turn i)) = 0
    · rw [h0] at hr
      rw [if_pos h0] at hstep
      repeat' (first | refine WP_seq ?_ | refine WP_region ?_ | refine wl_nil ?_ | refine then_normal ?_ | refine WP_skip ?_ | refine WP_block ?_ | refine WP_condT rfl ?_ | refine WP_drawTail 5 (by kernel_rfl) (by decide +kernel) ?_ | refine WP_drawTail 8 (by kernel_rfl) (by decide +kernel) ?_ | (refine ql_nil ?_; intro w hb; replace S := S.grow hb; clear hb) | (refine g_move ?_; refine st_move rfl ?_) | (refine g_assign ?_; refine st_assign rfl ?_) | (refine g_b_eql ?_; refine st_val rfl (r_eql rfl rfl) ?_) | (refine g_b_lss ?_; refine st_val rfl (r_lss rfl rfl) ?_) | (refine g_indexAddr ?_; first | (refine st_val rfl (r_indexAddr (hr2.mono S.below) rfl rfl ?_ ?_) ?_; (first | omega | (simp <;> omega)); (first | omega | (simp <;> omega))) | (refine st_val rfl (r_indexAddr (S.rdRow (D := (fInt .i64)) (i := 0) rfl) rfl rfl ?_ ?_) ?_; (first | omega | (simp <;> omega)); (first | omega | (simp <;> omega)))) | (refine g_load ?_; first | (refine st_val rfl (r_loadElem (hr2.mono S.below) rfl ?_ ?_) ?_; (first | omega | (simp <;> omega)); (first | omega | (simp <;> omega))) | (refine st_val rfl (r_loadElem1 (S.rdRow (D := (fInt .i64)) (i := 0) rfl) rfl ?_ ?_ rfl) ?_; (first | omega | (simp <;> omega)); (first | omega | (simp <;> omega))) | refine st_val rfl (r_loadVar (i := 1) S rfl rfl rfl) ?_ | refine st_val rfl (r_loadVarA (i := 8) S rfl rfl rfl rfl) ?_) | (refine g_callV ?_; (refine st_callV rfl (r_call2 rfl rfl rfl) (reason_is hr (talAt_of S) (hG.mono S.below) ⟨hxr.2.2.1, hxr.2.2.2⟩ hsr) ?_; intro w hb; replace S := S.grow hb; clear hb)) | (refine gq_move ?_; refine q_move rfl ?_) | (refine gq_b_add ?_; (refine q_val rfl (fun w' hb => r_addN rfl rfl ?_ ?_) ?_; (first | omega | (simp <;> omega)); (first | omega | (simp <;> omega)))) | (refine gq_nilCheck ?_; refine q_val rfl (fun w' hb => r_nilCheck rfl) ?_) | (refine gq_fieldAddr ?_; refine q_val rfl (fun w' hb => r_fieldAddrL rfl) ?_) | (refine gq_load ?_; first | refine q_val rfl (fun w' hb => r_loadVar (i := 6) (S.grow hb) rfl rfl rfl) ?_ | refine q_val rfl (fun w' hb => r_loadVar (i := 8) (S.grow hb) rfl rfl rfl) ?_ | refine q_val rfl (fun w' hb => r_loadVarA (i := 8) (S.grow hb) rfl rfl rfl rfl) ?_) | (refine g_alloc ?_; refine st_valE rfl (r_alloc S) ?_; rintro _ w ⟨b, rfl, -, S'⟩; replace S := S'; clear S') | (refine g_store ?_; first | (refine st_skipE rfl (r_storeVar (i := 0) S rfl rfl rfl rfl (of_decide_eq_true rfl) (of_decide_eq_true rfl)) ?_; intro w S'; replace S := S'; clear S') | (refine st_skipE rfl (r_storeVar (i := 1) S rfl rfl rfl rfl (of_decide_eq_true rfl) (of_decide_eq_true rfl)) ?_; intro w S'; replace S := S'; clear S') | (refine st_skipE rfl (r_storeVar (i := 2) S rfl rfl rfl rfl (of_decide_eq_true rfl) (of_decide_eq_true rfl)) ?_; intro w S'; replace S := S'; clear S') | (refine st_skipE rfl (r_storeVar (i := 3) S rfl rfl rfl rfl (of_decide_eq_true rfl) (of_decide_eq_true rfl)) ?_; intro w S'; replace S := S'; clear S') | (refine st_skipE rfl (r_storeVar (i := 4) S rfl rfl rfl rfl (of_decide_eq_true rfl) (of_decide_eq_true rfl)) ?_; intro w S'; replace S := S'; clear S') | (refine st_skipE rfl (r_storeVar (i := 5) S rfl rfl rfl rfl (of_decide_eq_true rfl) (of_decide_eq_true rfl)) ?_; intro w S'; replace S := S'; clear S') | (refine st_skipE rfl (r_storeVar (i := 6) S rfl rfl rfl rfl (of_decide_eq_true rfl) (of_decide_eq_true rfl)) ?_; intro w S'; replace S := S'; clear S') | (refine st_skipE rfl (r_storeVar (i := 7) S rfl rfl rfl rfl (of_decide_eq_true rfl) (of_decide_eq_true rfl)) ?_; intro w S'; replace S := S'; clear S') | (refine st_skipE rfl (r_storeVar (i := 8) S rfl rfl rfl rfl (of_decide_eq_true rfl) (of_decide_eq_true rfl)) ?_; intro w S'; replace S := S'; clear S')) | (refine st_skipE rfl (r_mapUpdate (i := 3) (eK := eP) (eV := eB) (k := nth sp (nth turn i)) (v := true) S rfl rfl rfl rfl) ?_; intro w S'; replace S := S'; clear S') | (refine q_val rfl (fun w' hb => r_lookup1D (k := (nth sp (nth turn i)).Contract) (eK := eI) (eV := eI) 0 rfl ((S.grow hb).mapAt (i := 4) rfl) rfl rfl) ?_) | (refine st_skipE rfl (r_mapUpdate (i := 4) (eK := eI) (eV := eI) (k := (nth sp (nth turn i)).Contract) (v := (mGet (nth sp (nth turn i)).Contract Mn).getD 0 + 1) S rfl rfl rfl rfl) ?_; intro w S'; replace S := S'; clear S') | (refine WP_cond rfl (fun h => ?_) (fun h => ?_) <;> (fail_if_success (have hh : true = true := h)) <;> (fail_if_success (have hh : false = false := h)) <;> (try simp only [decide_eq_true_eq, decide_eq_false_iff_not, Bool.not_eq_true', Bool.not_eq_false', Int.not_lt, Int.not_le] at h) <;> (try (exfalso; omega))))
      obtain ⟨x, hx⟩ : ∃ x, nth sp (nth turn i) = x := ⟨_, rfl⟩
      replace S : St w0 w [rowOb (fInt .i64) 3 (.slice A3 turn.length c3) turn, .var bs 64 [.slice A2 sp.length c2], mapOb eI eC b1 (cM l), mapOb eP eB b2 (mPut x true Sp), mapOb eI eI b3 (mPut x.Contract ((mGet x.Contract Mn).getD 0 + 1) Mn), mapOb eD eI b4 Dy, .var bt 134 [.map (some b1), .map (some b2), .map (some b3), .map (some b4)], rowOb (fInt .i64) 3 vo out, .var b 78 x.enc] := by rw [← hx]; exact S
      obtain ⟨dv, hdv⟩ : ∃ dv, (mGet (onD x) Dy).getD 0 = dv := ⟨_, rfl⟩
      refine WP_drawK (fun w' => ∃ Dy', (mGet (onD x) Dy').getD 0 = dv ∧ St w0 w' [rowOb (fInt .i64) 3 (.slice A3 turn.length c3) turn, .var bs 64 [.slice A2 sp.length c2], mapOb eI eC b1 (cM l), mapOb eP eB b2 (mPut x true Sp), mapOb eI eI b3 (mPut x.Contract ((mGet x.Contract Mn).getD 0 + 1) Mn), mapOb eD eI b4 Dy', .var bt 134 [.map (some b1), .map (some b2), .map (some b3), .map (some b4)], rowOb (fInt .i64) 3 vo out, .var b 78 x.enc]) [0, 1, 2, 3, 4] 5 [6, 7] [8, 9] [10] _ rfl (by kernel_rfl) (by decide) (by decide +kernel) (fun w' hb => ⟨Dy, hdv, S.grow hb⟩) ?_
      intro w' hb; replace S := S.grow hb; clear hb
      have hdb : 0 ≤ dv ∧ dv ≤ 60 := by rw [← hdv, ← hx, hcd]; omega
      rw [hx] at h0 hxr
      refine jq_val rfl (fun w' hJ => ⟨rfl⟩) ?_
      refine jq_val rfl (fun w' hJ => r_nilCheck rfl) ?_
      refine jq_val rfl (fun w' hJ => r_fieldAddrL rfl) ?_
      refine jq_val (v := .map (some b4)) rfl (fun w' hJ => by obtain ⟨Dy', hd, S'⟩ := hJ; exact r_loadVar (i := 6) S' rfl rfl rfl) ?_
      refine jq_val (v := .agg x.enc.toArray) rfl (fun w' hJ => by obtain ⟨Dy', hd, S'⟩ := hJ; exact r_loadVarA (i := 8) S' rfl rfl rfl rfl) ?_
      refine jq_nil ?_
      refine kq_callV rfl (r_call1 rfl rfl) (on_spec hxr.2.2.1 hxr.2.2.2) ?_
      intro w2 hb; replace S := S.grow hb; clear hb
      refine ⟨⟨Dy, hdv, S⟩, ?_⟩
      refine jq_val (v := .int .i64 dv) rfl (fun w' hJ => by obtain ⟨Dy', hd, S'⟩ := hJ; rw [← hd]; exact r_lookup1D (k := onD x) (eK := eD) (eV := eI) 0 rfl (S'.mapAt (i := 5) rfl) rfl rfl) ?_
      refine jq_val (v := .int .i64 (dv + 1)) rfl (fun w' hJ => r_addN rfl rfl (by omega) (by omega)) ?_
      refine jq_nil ?_
      refine wj_valE rfl (r_mapEntry (i := 5) (eK := eD) (eV := eI) (k := onD x) 0 S rfl rfl rfl rfl) ?_
      rintro _ w3 ⟨j, y, rfl, hf, S'⟩
      have htg : (mGet (onD x) (mTouch (onD x) 0 Dy)).getD 0 = dv := by rw [touch_get]; exact hdv
      refine ⟨⟨_, htg, S'⟩, ?_⟩
      refine wj_val rfl (r_extract rfl rfl) ⟨_, htg, S'⟩ ?_
      refine wj_nil ?_
      refine st_skipE rfl (r_entryStore (i := 5) (eK := eD) (eV := eI) (k := onD x) (v := dv + 1) S' rfl rfl rfl rfl hf) ?_
      intro w S2
      rw [mTouch_put] at S2
      clear S S' hf
      have S := S2; clear S2
      have hT' := hT.step h0
      rw [hdv] at hT'
      repeat' (first | refine WP_region ?_ | refine wl_nil ?_ | refine then_normal ?_ | (refine g_move ?_; refine st_move rfl ?_))
      refine st_valE rfl (r_litF (D := fInt .i64) [nth turn i] (Value.int .i64) S rfl rfl (fun _ => rfl) rfl (by decide) (by decide)) ?_
      rintro _ w ⟨bl, rfl, -, hcl, S'⟩; replace S := S'; clear S'
      refine st_valE rfl (r_append1 (D := fInt .i64) (i := 7) (b := bl) (x := nth turn i) S rfl rfl rfl (fl_one hcl) rfl (by decide) (of_decide_eq_true rfl) (by omega) (by omega)) ?_
      rintro vo' w ⟨-, S'⟩; replace S := S'; clear S' hcl
      repeat' (first | refine WP_region ?_ | refine wl_nil ?_ | refine then_normal ?_ | refine inB_normal ?_ | (refine g_move ?_; refine st_move rfl ?_) | (refine g_assign ?_; refine st_assign rfl ?_) | (refine g_b_add ?_; (refine st_val rfl (r_addN rfl rfl ?_ ?_) ?_; (first | omega | (simp <;> omega)); (first | omega | (simp <;> omega)))))
      refine ⟨⟨_, ?_, i + 1, vo', _, _, _, _, ⟨rfl, rfl, rfl, rfl, rfl, rfl, trivial⟩, S.keep [true, true, true, true, true, true, true, true], by omega, by omega, hstep.symm, ?_, rfl⟩⟩
      · omega
      · rw [show spAt sp (out ++ [nth turn i]) = spAt sp out ++ [x] by unfold spAt; rw [List.map_append, ← hx]; rfl]
        exact hT'
    · rw [if_neg h0] at hstep
      repeat' (first | refine WP_seq ?_ | refine WP_region ?_ | refine wl_nil ?_ | refine then_normal ?_ | refine inB_normal ?_ | refine WP_skip ?_ | refine WP_block ?_ | (refine g_move ?_; refine st_move rfl ?_) | (refine g_assign ?_; refine st_assign rfl ?_) | (refine g_b_add ?_; (refine st_val rfl (r_addN rfl rfl ?_ ?_) ?_; (first | omega | (simp <;> omega)); (first | omega | (simp <;> omega)))) | (refine g_b_eql ?_; refine st_val rfl (r_eql rfl rfl) ?_) | (refine g_b_lss ?_; refine st_val rfl (r_lss rfl rfl) ?_) | (refine g_indexAddr ?_; first | (refine st_val rfl (r_indexAddr (hr2.mono S.below) rfl rfl ?_ ?_) ?_; (first | omega | (simp <;> omega)); (first | omega | (simp <;> omega))) | (refine st_val rfl (r_indexAddr (S.rdRow (D := (fInt .i64)) (i := 0) rfl) rfl rfl ?_ ?_) ?_; (first | omega | (simp <;> omega)); (first | omega | (simp <;> omega)))) | (refine g_load ?_; first | (refine st_val rfl (r_loadElem (hr2.mono S.below) rfl ?_ ?_) ?_; (first | omega | (simp <;> omega)); (first | omega | (simp <;> omega))) | (refine st_val rfl (r_loadElem1 (S.rdRow (D := (fInt .i64)) (i := 0) rfl) rfl ?_ ?_ rfl) ?_; (first | omega | (simp <;> omega)); (first | omega | (simp <;> omega))) | refine st_val rfl (r_loadVar (i := 1) S rfl rfl rfl) ?_ | refine st_val rfl (r_loadVarA (i := 8) S rfl rfl rfl rfl) ?_) | (refine g_callV ?_; (refine st_callV rfl (r_call2 rfl rfl rfl) (reason_is hr (talAt_of S) (hG.mono S.below) ⟨hxr.2.2.1, hxr.2.2.2⟩ hsr) ?_; intro w hb; replace S := S.grow hb; clear hb)) | (refine g_alloc ?_; refine st_valE rfl (r_alloc S) ?_; rintro _ w ⟨b, rfl, -, S'⟩; replace S := S'; clear S') | (refine g_store ?_; first | (refine st_skipE rfl (r_storeVar (i := 0) S rfl rfl rfl rfl (of_decide_eq_true rfl) (of_decide_eq_true rfl)) ?_; intro w S'; replace S := S'; clear S') | (refine st_skipE rfl (r_storeVar (i := 1) S rfl rfl rfl rfl (of_decide_eq_true rfl) (of_decide_eq_true rfl)) ?_; intro w S'; replace S := S'; clear S') | (refine st_skipE rfl (r_storeVar (i := 2) S rfl rfl rfl rfl (of_decide_eq_true rfl) (of_decide_eq_true rfl)) ?_; intro w S'; replace S := S'; clear S') | (refine st_skipE rfl (r_storeVar (i := 3) S rfl rfl rfl rfl (of_decide_eq_true rfl) (of_decide_eq_true rfl)) ?_; intro w S'; replace S := S'; clear S') | (refine st_skipE rfl (r_storeVar (i := 4) S rfl rfl rfl rfl (of_decide_eq_true rfl) (of_decide_eq_true rfl)) ?_; intro w S'; replace S := S'; clear S') | (refine st_skipE rfl (r_storeVar (i := 5) S rfl rfl rfl rfl (of_decide_eq_true rfl) (of_decide_eq_true rfl)) ?_; intro w S'; replace S := S'; clear S') | (refine st_skipE rfl (r_storeVar (i := 6) S rfl rfl rfl rfl (of_decide_eq_true rfl) (of_decide_eq_true rfl)) ?_; intro w S'; replace S := S'; clear S') | (refine st_skipE rfl (r_storeVar (i := 7) S rfl rfl rfl rfl (of_decide_eq_true rfl) (of_decide_eq_true rfl)) ?_; intro w S'; replace S := S'; clear S') | (refine st_skipE rfl (r_storeVar (i := 8) S rfl rfl rfl rfl (of_decide_eq_true rfl) (of_decide_eq_true rfl)) ?_; intro w S'; replace S := S'; clear S')) | (refine WP_cond rfl (fun h => ?_) (fun h => ?_) <;> (fail_if_success (have hh : true = true := h)) <;> (fail_if_success (have hh : false = false := h)) <;> (try simp only [decide_eq_true_eq, decide_eq_false_iff_not, Bool.not_eq_true', Bool.not_eq_false', Int.not_lt, Int.not_le] at h) <;> (try (exfalso; omega))))
      refine ⟨⟨_, ?_, i + 1, vo, Sp, Mn, Dy, out, ⟨rfl, rfl, rfl, rfl, rfl, rfl, trivial⟩, S.keep [true, true, true, true, true, true, true, true], by omega, by omega, hstep.symm, hT, rfl⟩⟩
      omega
  repeat' (first | refine WP_seq ?_ | refine WP_region ?_ | refine wl_nil ?_ | refine then_normal ?_ | refine then_exit ?_ | refine inB_here ?_ | refine WP_ret ?_ | refine WP_exit ?_ | (refine g_move ?_; refine st_move rfl ?_) | (refine g_assign ?_; refine st_assign rfl ?_) | (refine g_b_lss ?_; refine st_val rfl (r_lss rfl rfl) ?_) | (refine WP_cond rfl (fun h => ?_) (fun h => ?_) <;> (fail_if_success (have hh : true = true := h)) <;> (fail_if_success (have hh : false = false := h)) <;> (try simp only [decide_eq_true_eq, decide_eq_false_iff_not, Bool.not_eq_true', Bool.not_eq_false', Int.not_lt, Int.not_le] at h) <;> (try (exfalso; omega))))
  have hit : i.toNat = turn.length := by omega
  rw [hit, List.take_length] at hout
  subst hout
  exact end3 rfl rfl rfl rfl ⟨_, rfl, S.below, bt, b1, b2, b3, b4, Sp, Mn, Dy, vo, turn, hO, rfl, hT, S.keep [false, false, true, true, true, true, true, true]⟩
end Go.Proofs.YtgdmaadikcnagaaDoor
