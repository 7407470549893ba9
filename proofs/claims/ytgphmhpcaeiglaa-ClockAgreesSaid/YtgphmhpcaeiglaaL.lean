import Derived.Test.YtgphmhpcaeiglaaK
namespace Go.Proofs.Ytgphmhpcaeiglaa
open Go Go.Gx Go.RowKit
set_option linter.unusedVariables false
set_option linter.unusedSimpArgs false

theorem inside_next {l : List GSpell} {i s : Int} (h0 : 0 ≤ i) (h : i < l.length) : insideI (l.take (i + 1).toNat) s = insideI (l.take i.toNat) s + (if (nth l i).From ≤ s ∧ s < (nth l i).To then 1 else 0) := by rw [take_snoc h0 h, inside_snoc]
theorem insideR_spec {v : Value} {l : List GSpell} {s : Int} {w0 : World} (hr : Rd fGSpell.ty w0 v l) (hl : l.length ≤ 100000) :
    CallsV Try.prog 33 #[v, .int .i64 s] w0 (.int .i64 (insideI l s)) := by
  have S := St.start w0
  obtain ⟨A, c, rfl⟩ := hr.len
  refine CallsV.mk ?_
  refine calls_enter Try.func33 rfl Try.ntmps33 rfl ?_
  repeat' (first | refine WP_seq ?_ | refine WP_region ?_ | refine wl_nil ?_ | refine then_normal ?_ | refine WP_block ?_ | (refine g_assign ?_; refine st_assign rfl ?_))
  refine WP_loop (fun k σ w1 => ∃ i : Int, Has σ [(0, .slice A l.length c), (1, .int .i64 s), (5, .int .i64 (insideI (l.take i.toNat) s)), (6, .int .i64 i)] ∧ St w0 w1 [] ∧ 0 ≤ i ∧ i ≤ l.length ∧ k = l.length - i.toNat) l.length ⟨0, ⟨rfl, rfl, rfl, rfl, trivial⟩, S, by omega, by omega, by omega⟩ ?_
  clear S
  rintro k σ w1 ⟨i, hs, S, a0, a1, rfl⟩
  refine WP_has hs ?_
  by_cases hi : i < l.length
  · have hn := inside_range (l.take i.toNat) s
    rw [List.length_take] at hn
    have hx := inside_next (s := s) a0 hi
    repeat' (first | refine WP_seq ?_ | refine WP_region ?_ | refine wl_nil ?_ | refine then_normal ?_ | refine inB_normal ?_ | refine WP_skip ?_ | refine WP_block ?_ | refine WP_condF rfl ?_ | (refine g_guard ?_; refine st_off rfl ?_) | (refine g_move ?_; refine st_move rfl ?_) | (refine g_assign ?_; refine st_assign rfl ?_) | (refine g_pick ?_; first | refine st_pickT rfl rfl ?_ | refine st_pickF rfl rfl ?_) | (refine g_b_add ?_; (refine st_val rfl (r_addN rfl rfl ?_ ?_) ?_; (first | omega | (simp <;> omega)); (first | omega | (simp <;> omega)))) | (refine g_b_lss ?_; refine st_val rfl (r_lss rfl rfl) ?_) | (refine g_b_leq ?_; refine st_val rfl (r_leq rfl rfl) ?_) | (refine g_c_len ?_; refine st_val rfl (r_lenSlice rfl) ?_) | (refine g_fieldAddr ?_; refine st_val rfl (r_fieldAddr rfl) ?_) | (refine g_indexAddr ?_; (refine st_val rfl (r_indexAddr (hr.mono S.below) rfl rfl ?_ ?_) ?_; (first | omega | (simp <;> omega)); (first | omega | (simp <;> omega)))) | (refine g_load ?_; first | (refine st_val rfl (r_loadElem1 (hr.mono S.below) rfl ?_ ?_ rfl) ?_; (first | omega | (simp <;> omega)); (first | omega | (simp <;> omega))) | (refine st_val rfl (r_loadElemF (hr.mono S.below) rfl ?_ ?_ rfl) ?_; (first | omega | (simp <;> omega)); (first | omega | (simp <;> omega)))) | (refine wl_split rfl rfl (fun h => ?_) (fun h => ?_) <;> (fail_if_success (have hh : true = true := h)) <;> (try simp only [decide_eq_true_eq, decide_eq_false_iff_not, Bool.not_eq_true', Bool.not_eq_false', Int.not_lt, Int.not_le] at h) <;> (try (exfalso; omega))) | (refine WP_cond rfl (fun h => ?_) (fun h => ?_) <;> (fail_if_success (have hh : true = true := h)) <;> (try simp only [decide_eq_true_eq, decide_eq_false_iff_not, Bool.not_eq_true', Bool.not_eq_false', Int.not_lt, Int.not_le] at h) <;> (try (exfalso; omega))))
    all_goals first
      | (refine ⟨⟨_, ?_, i + 1, ⟨rfl, rfl, vi (by rw [hx, if_pos (by omega)]), rfl, trivial⟩, S, by omega, by omega, rfl⟩⟩; omega)
      | (refine ⟨⟨_, ?_, i + 1, ⟨rfl, rfl, vi (by rw [hx, if_neg (by omega), Int.add_zero]), rfl, trivial⟩, S, by omega, by omega, rfl⟩⟩; omega)
      | trace_state
  · repeat' (first | refine WP_seq ?_ | refine WP_region ?_ | refine wl_nil ?_ | refine then_normal ?_ | refine then_exit ?_ | refine inB_here ?_ | refine WP_ret ?_ | refine WP_exit ?_ | (refine g_move ?_; refine st_move rfl ?_) | (refine g_assign ?_; refine st_assign rfl ?_) | (refine g_b_lss ?_; refine st_val rfl (r_lss rfl rfl) ?_) | (refine g_c_len ?_; refine st_val rfl (r_lenSlice rfl) ?_) | (refine WP_cond rfl (fun h => ?_) (fun h => ?_) <;> (fail_if_success (have hh : true = true := h)) <;> (try simp only [decide_eq_true_eq, decide_eq_false_iff_not, Bool.not_eq_true', Bool.not_eq_false', Int.not_lt, Int.not_le] at h) <;> (try (exfalso; omega))))
    refine end1 rfl rfl ⟨ri ?_, S.below⟩
    rw [show i.toNat = l.length by omega, List.take_of_length_le (Nat.le_refl _)]

theorem inside_pos {l : List GSpell} {s : Int} (h : 0 < insideI l s) : ∃ x ∈ l, x.From ≤ s ∧ s < x.To := by
  induction l with
  | nil => simp [insideI] at h
  | cons a r ih =>
    simp only [insideI] at h
    by_cases c : a.From ≤ s ∧ s < a.To
    · exact ⟨a, List.mem_cons_self .., c⟩
    · rw [if_neg c] at h
      obtain ⟨x, hx, hh⟩ := ih (by omega)
      exact ⟨x, List.mem_cons_of_mem _ hx, hh⟩
theorem inside_le {l : List GSpell} {s t : Int} (h : ∀ x ∈ l, x.From ≤ s → s < x.To → x.From ≤ t ∧ t < x.To) : insideI l s ≤ insideI l t := by
  induction l with
  | nil => exact Int.le_refl _
  | cons a r ih =>
    have := ih fun x hx => h x (List.mem_cons_of_mem _ hx)
    have ha := h a (List.mem_cons_self ..)
    simp only [insideI]
    (repeat' split) <;> omega
/-- The latest beginning of those that have s. -/
theorem inside_start {l : List GSpell} {s : Int} (h : 0 < insideI l s) : ∃ x ∈ l, x.From ≤ s ∧ insideI l s ≤ insideI l x.From := by
  have key : ∀ m : List GSpell, (∃ x ∈ m, x.From ≤ s ∧ s < x.To) → ∃ x ∈ m, x.From ≤ s ∧ s < x.To ∧ ∀ y ∈ m, y.From ≤ s → s < y.To → y.From ≤ x.From := by
    intro m
    induction m with
    | nil => rintro ⟨x, hx, _⟩; cases hx
    | cons a r ih =>
      rintro ⟨x, hx, h1, h2⟩
      by_cases hr : ∃ x ∈ r, x.From ≤ s ∧ s < x.To
      · obtain ⟨z, hz, z1, z2, z3⟩ := ih hr
        by_cases ca : a.From ≤ s ∧ s < a.To ∧ z.From < a.From
        · refine ⟨a, List.mem_cons_self .., ca.1, ca.2.1, fun y hy y1 y2 => ?_⟩
          rcases List.mem_cons.1 hy with rfl | hy
          · exact Int.le_refl _
          · have := z3 y hy y1 y2; omega
        · refine ⟨z, List.mem_cons_of_mem _ hz, z1, z2, fun y hy y1 y2 => ?_⟩
          rcases List.mem_cons.1 hy with rfl | hy
          · omega
          · exact z3 y hy y1 y2
      · rcases List.mem_cons.1 hx with rfl | hx
        · refine ⟨x, List.mem_cons_self .., h1, h2, fun y hy y1 y2 => ?_⟩
          rcases List.mem_cons.1 hy with rfl | hy
          · exact Int.le_refl _
          · exact absurd ⟨y, hy, y1, y2⟩ hr
        · exact absurd ⟨x, hx, h1, h2⟩ hr
  obtain ⟨x, hx, h1, h2, h3⟩ := key l (inside_pos h)
  exact ⟨x, hx, h1, inside_le fun y hy y1 y2 => ⟨h3 y hy y1 y2, by omega⟩⟩
def BestI (l m : List GSpell) (k f : Int) : Prop := 0 ≤ k ∧ (∀ x ∈ m, insideI l x.From ≤ k) ∧ (0 < k → insideI l f = k ∧ ∀ x ∈ m, insideI l x.From = k → f ≤ x.From)
theorem best_all {l : List GSpell} {k f : Int} (h : BestI l l k f) : (k = 0 → ∀ s, insideI l s = 0) ∧ (0 < k → (∀ s, insideI l s ≤ k) ∧ insideI l f = k ∧ ∀ s, s < f → insideI l s < k) := by
  obtain ⟨h0, h1, h2⟩ := h
  have hle : ∀ s, insideI l s ≤ k := fun s => by
    have := inside_range l s
    by_cases c : 0 < insideI l s
    · obtain ⟨x, hx, _, hh⟩ := inside_start c
      have := h1 x hx; omega
    · omega
  refine ⟨fun hk s => by have := hle s; have := inside_range l s; omega, fun hk => ⟨hle, (h2 hk).1, fun s hs => ?_⟩⟩
  have := hle s
  by_cases e : insideI l s = k
  · obtain ⟨x, hx, hh, hh2⟩ := inside_start (l := l) (s := s) (by omega)
    have := hle x.From
    have := (h2 hk).2 x hx (by omega)
    omega
  · omega
/-- The next edge behind t. -/
def NextI (m : List GSpell) (t n : Int) : Prop := (n = t ∧ ∀ x ∈ m, x.From ≤ t ∧ x.To ≤ t) ∨ (t < n ∧ (∃ x ∈ m, n ≤ x.From ∧ x.From ≤ n ∨ n ≤ x.To ∧ x.To ≤ n) ∧ ∀ x ∈ m, (x.From ≤ t ∨ n ≤ x.From) ∧ (x.To ≤ t ∨ n ≤ x.To))
theorem next_const {l : List GSpell} {t n s : Int} (h : ∀ x ∈ l, (x.From ≤ t ∨ n ≤ x.From) ∧ (x.To ≤ t ∨ n ≤ x.To)) (h1 : t ≤ s) (h2 : s < n) : insideI l s = insideI l t := by
  have a := inside_le (l := l) (s := s) (t := t) fun x hx y1 y2 => by have := h x hx; omega
  have b := inside_le (l := l) (s := t) (t := s) fun x hx y1 y2 => by have := h x hx; omega
  omega
theorem to_bound (l : List GSpell) : ∃ B : Int, ∀ x ∈ l, x.From ≤ B ∧ x.To ≤ B := by
  induction l with
  | nil => exact ⟨0, fun x hx => by cases hx⟩
  | cons a r ih =>
    obtain ⟨B, hB⟩ := ih
    refine ⟨max B (max a.From a.To), fun x hx => ?_⟩
    rcases List.mem_cons.1 hx with rfl | hx
    · omega
    · have := hB x hx; omega
theorem mem_take_next {l : List GSpell} {i : Int} (h0 : 0 ≤ i) (h : i < l.length) {x : GSpell} : x ∈ l.take (i + 1).toNat ↔ x ∈ l.take i.toNat ∨ x = nth l i := by
  rw [take_snoc h0 h, List.mem_append, List.mem_singleton]
theorem next_step {l : List GSpell} {t n i n' n2 : Int} (h0 : 0 ≤ i) (hi : i < l.length) (h : NextI (l.take i.toNat) t n)
    (h1 : n' = if t < (nth l i).From ∧ (n = t ∨ (nth l i).From < n) then (nth l i).From else n) (h2 : n2 = if t < (nth l i).To ∧ (n' = t ∨ (nth l i).To < n') then (nth l i).To else n') : NextI (l.take (i + 1).toNat) t n2 := by
  have hc : n2 = t ∨ t < n2 := by
    rcases h with ⟨h, _⟩ | ⟨h, _⟩ <;> (repeat' split at *) <;> omega
  have hall : ∀ x ∈ l.take i.toNat, (n = t → x.From ≤ t ∧ x.To ≤ t) ∧ (x.From ≤ t ∨ n ≤ x.From) ∧ (x.To ≤ t ∨ n ≤ x.To) := fun x hx => by
    rcases h with ⟨h, h'⟩ | ⟨h, _, h'⟩
    · have := h' x hx; omega
    · have := h' x hx; omega
  rcases hc with hc | hc
  · refine .inl ⟨hc, fun x hx => ?_⟩
    rcases (mem_take_next h0 hi).1 hx with hx | rfl
    · have := hall x hx
      rcases h with ⟨h, _⟩ | ⟨h, _⟩
      · exact this.1 h
      · (repeat' split at *) <;> omega
    · rcases h with ⟨h, _⟩ | ⟨h, _⟩ <;> (repeat' split at *) <;> omega
  · refine .inr ⟨hc, ?_, fun x hx => ?_⟩
    · by_cases e : n2 = n
      · rcases h with ⟨h, _⟩ | ⟨h, ⟨x, hx, hh⟩, _⟩
        · omega
        · exact ⟨x, (mem_take_next h0 hi).2 (.inl hx), by omega⟩
      · exact ⟨nth l i, (mem_take_next h0 hi).2 (.inr rfl), by (repeat' split at *) <;> omega⟩
    · rcases (mem_take_next h0 hi).1 hx with hx | rfl
      · have := hall x hx
        rcases h with ⟨h, _⟩ | ⟨h, _⟩ <;> (repeat' split at *) <;> omega
      · rcases h with ⟨h, _⟩ | ⟨h, _⟩ <;> (repeat' split at *) <;> omega
end Go.Proofs.Ytgphmhpcaeiglaa
