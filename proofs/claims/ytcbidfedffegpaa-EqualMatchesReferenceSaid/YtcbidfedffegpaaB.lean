import Derived.Test.YtcbidfedffegpaaA
namespace Go.Proofs.Ytcbidfedffegpaa
open Go Go.Gx Go.RowKit
set_option linter.unusedVariables false
set_option linter.unusedSimpArgs false
/-- The second of the appearance ahead of the i-th. -/
def prevA (l : List GAppearance) (i : Int) : Int := if i = 0 then -1 else (nth l (i - 1)).At
def ok1 (n : Int) (a : GAppearance) (p : Int) : Bool := decide (0 ≤ a.Candidate ∧ a.Candidate ≤ n - 1 ∧ p < a.At ∧ a.At ≤ 10000000 ∧ 1 ≤ a.Seconds ∧ a.Seconds ≤ 3600 ∧ 1 ≤ a.Weight ∧ a.Weight ≤ 10)
def okAt (n : Int) (l : List GAppearance) (i : Nat) : Bool := ok1 n (nth l (i : Int)) (prevA l (i : Int))
/-- Whether appearances are valid. -/
def validA (n : Int) (l : List GAppearance) : Bool := decide (2 ≤ n ∧ n ≤ 8) && decide (l.length ≤ 60) && (List.range l.length).all (okAt n l)
theorem all_range {p : Nat → Bool} {m : Nat} (h : ∀ j : Nat, j < m → p j = true) : (List.range m).all p = true := by
  rw [List.all_eq_true]; intro j hj; exact h j (List.mem_range.1 hj)
theorem not_range {p : Nat → Bool} {m : Nat} (j : Nat) (hj : j < m) (h : p j = false) : (List.range m).all p = false := by
  rw [List.all_eq_false]; exact ⟨j, List.mem_range.2 hj, by rw [h]; decide⟩
theorem all_range' {p : Nat → Bool} {l : List GAppearance} {i : Int} (h0 : 0 ≤ i) (h : ∀ j : Int, 0 ≤ j → j < i → p j.toNat = true) (he : i = l.length) : (List.range l.length).all p = true :=
  all_range fun j hj => by have := h j (by omega) (by omega); simpa using this
theorem okAt_i {n : Int} {l : List GAppearance} {i : Int} (h0 : 0 ≤ i) : okAt n l i.toNat = ok1 n (nth l i) (prevA l i) := by
  unfold okAt; rw [Int.toNat_of_nonneg h0]
theorem valid_of {n : Int} {l : List GAppearance} {b : Bool} (h0 : 2 ≤ n ∧ n ≤ 8) (h1 : l.length ≤ 60) (h : (List.range l.length).all (okAt n l) = b) : validA n l = b := by
  unfold validA; rw [h, decide_eq_true h0, decide_eq_true h1]; rfl
theorem valid_no {n : Int} {l : List GAppearance} (h : ¬ (2 ≤ n ∧ n ≤ 8) ∨ ¬ l.length ≤ 60) : validA n l = false := by
  unfold validA; rcases h with h | h
  · rw [decide_eq_false h]; rfl
  · rw [decide_eq_false h, Bool.and_false, Bool.false_and]
theorem inR_t {n lo hi : Int} (h : inR n lo hi = true) : lo ≤ n ∧ n ≤ hi := of_decide_eq_true h
theorem inR_f {n lo hi : Int} (h : inR n lo hi = false) : ¬ (lo ≤ n ∧ n ≤ hi) := of_decide_eq_false h
theorem valid_spec {n : Int} {v : Value} {l : List GAppearance} {w0 : World} (hn : -9223372036854775808 ≤ n ∧ n ≤ 9223372036854775807) (hr : Rd fGAppearance.ty w0 v l) (hl : l.length ≤ 1000000000) :
    CallsV Try.prog 14 #[.int .i64 n, v] w0 (.bool (validA n l)) := by
  have S := St.start w0
  obtain ⟨A, c, rfl⟩ := hr.len
  refine CallsV.mk ?_
  refine calls_enter Try.func14 rfl (by intro _ h; first | exact nomatch h.1 | (obtain ⟨_, h, _⟩ := h; exact nomatch h)) Try.ntmps14 rfl ?_
  repeat' (first | refine WP_seq ?_ | refine WP_region ?_ | refine wl_nil ?_ | refine then_normal ?_ | refine then_ret ?_ | refine WP_ret ?_ | refine WP_skip ?_ | refine WP_block ?_ | refine WP_condT rfl ?_ | (refine g_guard ?_; refine st_off rfl ?_) | (refine g_move ?_; refine st_move rfl ?_) | (refine g_assign ?_; refine st_assign rfl ?_) | (refine g_pick ?_; first | refine st_pickT rfl rfl ?_ | refine st_pickF rfl rfl ?_) | (refine g_b_gtr ?_; refine st_val rfl (r_gtr rfl rfl) ?_) | (refine g_un ?_; refine st_val rfl (r_not rfl) ?_) | (refine g_c_len ?_; refine st_val rfl (r_lenSlice rfl) ?_) | (refine g_callV ?_; (refine st_callV rfl (r_call3 rfl rfl rfl rfl) (within_spec) ?_; intro w hb; replace S := S.grow hb; clear hb)) | (refine wl_split rfl rfl (fun h => ?_) (fun h => ?_) <;> (fail_if_success (have hh : true = true := h)) <;> (fail_if_success (have hh : false = false := h)) <;> (try simp only [decide_eq_true_eq, decide_eq_false_iff_not, Bool.not_eq_true', Bool.not_eq_false', Int.not_lt, Int.not_le] at h) <;> (try (exfalso; omega))) | (refine WP_cond rfl (fun h => ?_) (fun h => ?_) <;> (fail_if_success (have hh : true = true := h)) <;> (fail_if_success (have hh : false = false := h)) <;> (try simp only [decide_eq_true_eq, decide_eq_false_iff_not, Bool.not_eq_true', Bool.not_eq_false', Int.not_lt, Int.not_le] at h) <;> (try (exfalso; omega))))
  · refine end1 rfl rfl ⟨rb ?_, S.below⟩
    rw [valid_no (.inl (by simp only [inR, decide_eq_true_eq, decide_eq_false_iff_not, Bool.not_eq_true', Bool.not_eq_false'] at *; omega))]
  · refine end1 rfl rfl ⟨rb ?_, S.below⟩
    rw [valid_no (.inr (by omega))]
  simp only [inR, decide_eq_true_eq, decide_eq_false_iff_not, Bool.not_eq_true', Bool.not_eq_false'] at *
  refine WP_loop (fun k σ w1 => ∃ i : Int, Has σ [(0, .int .i64 n), (5, .int .i64 (prevA l i)), (16, .slice A l.length c), (17, .int .i64 l.length), (18, .int .i64 i)] ∧ St w0 w1 [] ∧ 0 ≤ i ∧ i ≤ l.length ∧ (∀ j : Int, 0 ≤ j → j < i → okAt n l j.toNat = true) ∧ k = l.length - i.toNat) l.length ⟨0, ⟨rfl, rfl, rfl, rfl, rfl, trivial⟩, S, by omega, by omega, fun j a b => by omega, by omega⟩ ?_
  clear S
  rintro k σ w1 ⟨i, hs', S, hi0, hi1, hok, rfl⟩
  refine WP_has hs' ?_
  have hp : prevA l (i + 1) = (nth l i).At := by unfold prevA; rw [if_neg (by omega), show i + 1 - 1 = i by omega]
  by_cases hi : i < l.length
  · repeat' (first | refine WP_seq ?_ | refine WP_region ?_ | refine wl_nil ?_ | refine then_normal ?_ | refine inB_normal ?_ | refine then_ret ?_ | refine inB_ret ?_ | refine WP_ret ?_ | refine WP_skip ?_ | refine WP_block ?_ | refine WP_condT rfl ?_ | (refine g_guard ?_; refine st_off rfl ?_) | (refine g_move ?_; refine st_move rfl ?_) | (refine g_assign ?_; refine st_assign rfl ?_) | (refine g_pick ?_; first | refine st_pickT rfl rfl ?_ | refine st_pickF rfl rfl ?_) | (refine g_b_add ?_; (refine st_val rfl (r_addN rfl rfl ?_ ?_) ?_; (first | omega | (simp <;> omega)); (first | omega | (simp <;> omega)))) | (refine g_b_sub ?_; (refine st_val rfl (r_subN rfl rfl ?_ ?_) ?_; (first | omega | (simp <;> omega)); (first | omega | (simp <;> omega)))) | (refine g_b_lss ?_; refine st_val rfl (r_lss rfl rfl) ?_) | (refine g_b_leq ?_; refine st_val rfl (r_leq rfl rfl) ?_) | (refine g_b_gtr ?_; refine st_val rfl (r_gtr rfl rfl) ?_) | (refine g_un ?_; refine st_val rfl (r_not rfl) ?_) | (refine g_fieldAddr ?_; refine st_val rfl (r_fieldAddrL rfl) ?_) | (refine g_indexAddr ?_; (refine st_val rfl (r_indexAddr (hr.mono S.below) rfl rfl ?_ ?_) ?_; (first | omega | (simp <;> omega)); (first | omega | (simp <;> omega)))) | (refine g_load ?_; first | (refine st_val rfl (r_loadElem (hr.mono S.below) rfl ?_ ?_) ?_; (first | omega | (simp <;> omega)); (first | omega | (simp <;> omega))) | refine st_val rfl (r_loadVar (i := 0) S rfl rfl rfl) ?_) | (refine g_callV ?_; (refine st_callV rfl (r_call3 rfl rfl rfl rfl) (within_spec) ?_; intro w hb; replace S := S.grow hb; clear hb)) | (refine g_alloc ?_; refine st_valE rfl (r_alloc S) ?_; rintro _ w ⟨b, rfl, -, S'⟩; replace S := S'; clear S') | (refine g_store ?_; first | (refine st_skipE rfl (r_storeVar (i := 0) S rfl rfl rfl rfl (of_decide_eq_true rfl) (of_decide_eq_true rfl)) ?_; intro w S'; replace S := S'; clear S') | (refine st_skipE rfl (r_storeVar (i := 1) S rfl rfl rfl rfl (of_decide_eq_true rfl) (of_decide_eq_true rfl)) ?_; intro w S'; replace S := S'; clear S') | (refine st_skipE rfl (r_storeVar (i := 2) S rfl rfl rfl rfl (of_decide_eq_true rfl) (of_decide_eq_true rfl)) ?_; intro w S'; replace S := S'; clear S')) | (refine wl_split rfl rfl (fun h => ?_) (fun h => ?_) <;> (fail_if_success (have hh : true = true := h)) <;> (fail_if_success (have hh : false = false := h)) <;> (try simp only [decide_eq_true_eq, decide_eq_false_iff_not, Bool.not_eq_true', Bool.not_eq_false', Int.not_lt, Int.not_le] at h) <;> (try (exfalso; omega))) | (refine WP_cond rfl (fun h => ?_) (fun h => ?_) <;> (fail_if_success (have hh : true = true := h)) <;> (fail_if_success (have hh : false = false := h)) <;> (try simp only [decide_eq_true_eq, decide_eq_false_iff_not, Bool.not_eq_true', Bool.not_eq_false', Int.not_lt, Int.not_le] at h) <;> (try (exfalso; omega))))
    all_goals first
      | (refine ⟨⟨_, ?_, i + 1, ⟨rfl, hp ▸ rfl, rfl, rfl, rfl, trivial⟩, S.keep [false], by omega, by omega, fun j a b => ?_, rfl⟩⟩
         · omega
         · by_cases e : j = i
           · subst e; simp only [inR, decide_eq_true_eq, decide_eq_false_iff_not, Bool.not_eq_true', Bool.not_eq_false'] at *; rw [okAt_i hi0]; unfold ok1; rw [decide_eq_true_eq]; omega
           · exact hok j a (by omega))
      | (refine end1 rfl rfl ⟨rb ?_, S.below⟩
         symm; refine valid_of (by omega) (by omega) (not_range i.toNat (by omega) ?_)
         simp only [inR, decide_eq_true_eq, decide_eq_false_iff_not, Bool.not_eq_true', Bool.not_eq_false'] at *; rw [okAt_i hi0]; unfold ok1; rw [decide_eq_false_iff_not]; omega)
  · repeat' (first | refine WP_seq ?_ | refine WP_region ?_ | refine wl_nil ?_ | refine then_normal ?_ | refine then_exit ?_ | refine inB_here ?_ | refine WP_ret ?_ | refine WP_exit ?_ | (refine g_assign ?_; refine st_assign rfl ?_) | (refine g_b_lss ?_; refine st_val rfl (r_lss rfl rfl) ?_) | (refine WP_cond rfl (fun h => ?_) (fun h => ?_) <;> (fail_if_success (have hh : true = true := h)) <;> (fail_if_success (have hh : false = false := h)) <;> (try simp only [decide_eq_true_eq, decide_eq_false_iff_not, Bool.not_eq_true', Bool.not_eq_false', Int.not_lt, Int.not_le] at h) <;> (try (exfalso; omega))))
    refine end1 rfl rfl ⟨rb ?_, S.below⟩
    symm; exact valid_of (by omega) (by omega) (all_range' hi0 hok (by omega))
theorem prev_nonneg {n : Int} {l : List GAppearance} {i : Int} (h0 : 0 ≤ i) (hok : ∀ j : Int, 0 ≤ j → j < i → okAt n l j.toNat = true) : -1 ≤ prevA l i := by
  unfold prevA; split
  · omega
  · have := hok (i - 1) (by omega) (by omega)
    rw [okAt_i (by omega)] at this
    have h := of_decide_eq_true this
    have key : ∀ k : Nat, (∀ j : Int, 0 ≤ j → j < (k : Int) + 1 → okAt n l j.toNat = true) → 0 ≤ (nth l k).At := by
      intro k
      induction k with
      | zero => intro hk; have := hk 0 (by omega) (by omega); rw [okAt_i (by omega)] at this; have h := of_decide_eq_true this; unfold prevA at h; rw [if_pos rfl] at h; simp at h ⊢; omega
      | succ k ih =>
        intro hk
        have := hk (k + 1) (by omega) (by omega); rw [okAt_i (by omega)] at this; have h := of_decide_eq_true this; unfold prevA at h; rw [if_neg (by omega), show ((k : Int) + 1 - 1) = k by omega] at h
        have := ih (fun j a b => hk j a (by omega))
        simp at h ⊢; omega
    have := key (i - 1).toNat (fun j a b => hok j a (by omega))
    rw [show (((i - 1).toNat : Nat) : Int) = i - 1 by omega] at this
    omega
theorem validR_spec {n : Int} {v : Value} {l : List GAppearance} {w0 : World} (hn : -9223372036854775808 ≤ n ∧ n ≤ 9223372036854775807) (hr : Rd fGAppearance.ty w0 v l) (hl : l.length ≤ 1000000000) :
    CallsV Try.prog 15 #[.int .i64 n, v] w0 (.bool (validA n l)) := by
  have S := St.start w0
  obtain ⟨A, c, rfl⟩ := hr.len
  refine CallsV.mk ?_
  refine calls_enter Try.func15 rfl (by intro _ h; first | exact nomatch h.1 | (obtain ⟨_, h, _⟩ := h; exact nomatch h)) Try.ntmps15 rfl ?_
  repeat' (first | refine WP_seq ?_ | refine WP_region ?_ | refine wl_nil ?_ | refine then_normal ?_ | refine then_ret ?_ | refine WP_ret ?_ | refine WP_skip ?_ | refine WP_block ?_ | refine WP_condT rfl ?_ | (refine g_guard ?_; refine st_off rfl ?_) | (refine g_move ?_; refine st_move rfl ?_) | (refine g_assign ?_; refine st_assign rfl ?_) | (refine g_pick ?_; first | refine st_pickT rfl rfl ?_ | refine st_pickF rfl rfl ?_) | (refine g_b_gtr ?_; refine st_val rfl (r_gtr rfl rfl) ?_) | (refine g_un ?_; refine st_val rfl (r_not rfl) ?_) | (refine g_c_len ?_; refine st_val rfl (r_lenSlice rfl) ?_) | (refine g_callV ?_; (refine st_callV rfl (r_call3 rfl rfl rfl rfl) (in_spec) ?_; intro w hb; replace S := S.grow hb; clear hb)) | (refine wl_split rfl rfl (fun h => ?_) (fun h => ?_) <;> (fail_if_success (have hh : true = true := h)) <;> (fail_if_success (have hh : false = false := h)) <;> (try simp only [decide_eq_true_eq, decide_eq_false_iff_not, Bool.not_eq_true', Bool.not_eq_false', Int.not_lt, Int.not_le] at h) <;> (try (exfalso; omega))) | (refine WP_cond rfl (fun h => ?_) (fun h => ?_) <;> (fail_if_success (have hh : true = true := h)) <;> (fail_if_success (have hh : false = false := h)) <;> (try simp only [decide_eq_true_eq, decide_eq_false_iff_not, Bool.not_eq_true', Bool.not_eq_false', Int.not_lt, Int.not_le] at h) <;> (try (exfalso; omega))))
  · refine end1 rfl rfl ⟨rb ?_, S.below⟩
    rw [valid_no (.inl (by simp only [inR, decide_eq_true_eq, decide_eq_false_iff_not, Bool.not_eq_true', Bool.not_eq_false'] at *; omega))]
  · refine end1 rfl rfl ⟨rb ?_, S.below⟩
    rw [valid_no (.inr (by omega))]
  simp only [inR, decide_eq_true_eq, decide_eq_false_iff_not, Bool.not_eq_true', Bool.not_eq_false'] at *
  refine WP_loop (fun k σ w1 => ∃ i : Int, Has σ [(0, .int .i64 n), (1, .slice A l.length c), (5, .int .i64 i)] ∧ St w0 w1 [] ∧ 0 ≤ i ∧ i ≤ l.length ∧ (∀ j : Int, 0 ≤ j → j < i → okAt n l j.toNat = true) ∧ k = l.length - i.toNat) l.length ⟨0, ⟨rfl, rfl, rfl, trivial⟩, S, by omega, by omega, fun j a b => by omega, by omega⟩ ?_
  clear S
  rintro k σ w1 ⟨i, hs', S, hi0, hi1, hok, rfl⟩
  refine WP_has hs' ?_
  have hq := prev_nonneg hi0 hok
  have hpv : (i = 0 ∧ prevA l i = -1) ∨ (0 < i ∧ prevA l i = (nth l (i - 1)).At) := by
    unfold prevA; split
    · exact .inl ⟨by omega, rfl⟩
    · exact .inr ⟨by omega, rfl⟩
  by_cases hi : i < l.length
  · repeat' (first | refine WP_seq ?_ | refine WP_region ?_ | refine wl_nil ?_ | refine then_normal ?_ | refine inB_normal ?_ | refine then_ret ?_ | refine inB_ret ?_ | refine WP_ret ?_ | refine WP_skip ?_ | refine WP_block ?_ | refine WP_condT rfl ?_ | refine WP_condF rfl ?_ | refine WP_draw (by kernel_rfl) (by kernel_rfl) ?_ | (refine ql_nil ?_; intro w hb; replace S := S.grow hb; clear hb) | (refine g_move ?_; refine st_move rfl ?_) | (refine g_assign ?_; refine st_assign rfl ?_) | (refine g_b_add ?_; (refine st_val rfl (r_addN rfl rfl ?_ ?_) ?_; (first | omega | (simp <;> omega)); (first | omega | (simp <;> omega)))) | (refine g_b_lss ?_; refine st_val rfl (r_lss rfl rfl) ?_) | (refine g_c_len ?_; refine st_val rfl (r_lenSlice rfl) ?_) | (refine g_indexAddr ?_; (refine st_val rfl (r_indexAddr (hr.mono S.below) rfl rfl ?_ ?_) ?_; (first | omega | (simp <;> omega)); (first | omega | (simp <;> omega)))) | (refine g_load ?_; (refine st_val rfl (r_loadElem (hr.mono S.below) rfl ?_ ?_) ?_; (first | omega | (simp <;> omega)); (first | omega | (simp <;> omega)))) | (refine gq_guard ?_; refine q_off rfl ?_) | (refine gq_move ?_; refine q_move rfl ?_) | (refine gq_pick ?_; first | refine q_pickT rfl rfl ?_ | refine q_pickF rfl rfl ?_) | (refine gq_b_sub ?_; (refine q_val rfl (fun w' hb => r_subN rfl rfl ?_ ?_) ?_; (first | omega | (simp <;> omega)); (first | omega | (simp <;> omega)))) | (refine gq_b_leq ?_; refine q_val rfl (fun w' hb => r_leq rfl rfl) ?_) | (refine gq_b_gtr ?_; refine q_val rfl (fun w' hb => r_gtr rfl rfl) ?_) | (refine gq_un ?_; refine q_val rfl (fun w' hb => r_not rfl) ?_) | (refine gq_fieldAddr ?_; first | refine q_val rfl (fun w' hb => r_fieldAddrL rfl) ?_ | refine q_val rfl (fun w' hb => r_fieldAddr rfl) ?_) | (refine gq_indexAddr ?_; (refine q_val rfl (fun w' hb => r_indexAddr (hr.mono (S.grow hb).below) rfl rfl ?_ ?_) ?_; (first | omega | (simp <;> omega)); (first | omega | (simp <;> omega)))) | (refine gq_load ?_; first | (refine q_val rfl (fun w' hb => r_loadElemF (hr.mono (S.grow hb).below) rfl ?_ ?_ rfl) ?_; (first | omega | (simp <;> omega)); (first | omega | (simp <;> omega))) | refine q_val rfl (fun w' hb => r_loadVar (i := 0) (S.grow hb) rfl rfl rfl) ?_) | (refine gq_callV ?_; refine q_callV rfl (fun w' hb => r_call3 rfl rfl rfl rfl) (fun w' hb => in_spec) ?_) | (refine g_alloc ?_; refine st_valE rfl (r_alloc S) ?_; rintro _ w ⟨b, rfl, -, S'⟩; replace S := S'; clear S') | (refine g_store ?_; first | (refine st_skipE rfl (r_storeVar (i := 0) S rfl rfl rfl rfl (of_decide_eq_true rfl) (of_decide_eq_true rfl)) ?_; intro w S'; replace S := S'; clear S') | (refine st_skipE rfl (r_storeVar (i := 1) S rfl rfl rfl rfl (of_decide_eq_true rfl) (of_decide_eq_true rfl)) ?_; intro w S'; replace S := S'; clear S') | (refine st_skipE rfl (r_storeVar (i := 2) S rfl rfl rfl rfl (of_decide_eq_true rfl) (of_decide_eq_true rfl)) ?_; intro w S'; replace S := S'; clear S')) | (refine ql_split rfl rfl (fun h => ?_) (fun h => ?_) <;> (fail_if_success (have hh : true = true := h)) <;> (fail_if_success (have hh : false = false := h)) <;> (try simp only [decide_eq_true_eq, decide_eq_false_iff_not, Bool.not_eq_true', Bool.not_eq_false', Int.not_lt, Int.not_le] at h) <;> (try (exfalso; omega))) | (refine WP_cond rfl (fun h => ?_) (fun h => ?_) <;> (fail_if_success (have hh : true = true := h)) <;> (fail_if_success (have hh : false = false := h)) <;> (try simp only [decide_eq_true_eq, decide_eq_false_iff_not, Bool.not_eq_true', Bool.not_eq_false', Int.not_lt, Int.not_le] at h) <;> (try (exfalso; omega))))
    all_goals first
      | (refine ⟨⟨_, ?_, i + 1, ⟨rfl, rfl, rfl, trivial⟩, S.keep [false], by omega, by omega, fun j a b => ?_, rfl⟩⟩
         · omega
         · by_cases e : j = i
           · subst e; simp only [inR, decide_eq_true_eq, decide_eq_false_iff_not, Bool.not_eq_true', Bool.not_eq_false'] at *; rw [okAt_i hi0]; unfold ok1; rw [decide_eq_true_eq]; omega
           · exact hok j a (by omega))
      | (refine end1 rfl rfl ⟨rb ?_, S.below⟩
         symm; refine valid_of (by omega) (by omega) (not_range i.toNat (by omega) ?_)
         simp only [inR, decide_eq_true_eq, decide_eq_false_iff_not, Bool.not_eq_true', Bool.not_eq_false'] at *; rw [okAt_i hi0]; unfold ok1; rw [decide_eq_false_iff_not]; omega)
  · repeat' (first | refine WP_seq ?_ | refine WP_region ?_ | refine wl_nil ?_ | refine then_normal ?_ | refine then_exit ?_ | refine inB_here ?_ | refine WP_ret ?_ | refine WP_exit ?_ | (refine g_move ?_; refine st_move rfl ?_) | (refine g_assign ?_; refine st_assign rfl ?_) | (refine g_b_lss ?_; refine st_val rfl (r_lss rfl rfl) ?_) | (refine g_c_len ?_; refine st_val rfl (r_lenSlice rfl) ?_) | (refine WP_cond rfl (fun h => ?_) (fun h => ?_) <;> (fail_if_success (have hh : true = true := h)) <;> (fail_if_success (have hh : false = false := h)) <;> (try simp only [decide_eq_true_eq, decide_eq_false_iff_not, Bool.not_eq_true', Bool.not_eq_false', Int.not_lt, Int.not_le] at h) <;> (try (exfalso; omega))))
    refine end1 rfl rfl ⟨rb ?_, S.below⟩
    symm; exact valid_of (by omega) (by omega) (all_range' hi0 hok (by omega))
end Go.Proofs.Ytcbidfedffegpaa
