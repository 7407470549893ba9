import Derived.Test.YtaoicaldhllbfaaY
namespace Go.Proofs.Ytaoicaldhllbfaa
open Go Go.Gx Go.RowKit
set_option linter.unusedVariables false
set_option linter.unusedSimpArgs false

def fitsI (d a n : Int) : Bool := decide ((1000 - d) * a - 1000 < 1000 * n) && decide (1000 * n < (1000 + d) * a + 1000)
theorem fits_spec {d a n : Int} {w : World} (d0 : 0 ≤ d) (d1 : d ≤ 100) (a0 : 0 ≤ a) (a1 : a ≤ 20000000) (n0 : 0 ≤ n) (n1 : n ≤ 10000000) :
    CallsV Try.prog 46 #[.int .i64 d, .int .i64 a, .int .i64 n] w (.bool (fitsI d a n)) := by
  have S := St.start w
  have b1 : 0 ≤ (1000 - d) * a := Int.mul_nonneg (by omega) a0
  have b2 : (1000 - d) * a ≤ 1000 * 20000000 := Int.mul_le_mul (by omega) a1 a0 (by omega)
  have b3 : 0 ≤ (1000 + d) * a := Int.mul_nonneg (by omega) a0
  have b4 : (1000 + d) * a ≤ 1100 * 20000000 := Int.mul_le_mul (by omega) a1 a0 (by omega)
  refine CallsV.mk ?_
  refine calls_enter Try.func46 rfl Try.ntmps46 rfl ?_
  repeat' (first | refine WP_seq ?_ | refine WP_region ?_ | refine wl_nil ?_ | refine then_normal ?_ | refine WP_ret ?_ | (refine g_guard ?_; refine st_off rfl ?_) | (refine g_move ?_; refine st_move rfl ?_) | (refine g_assign ?_; refine st_assign rfl ?_) | (refine g_pick ?_; first | refine st_pickT rfl rfl ?_ | refine st_pickF rfl rfl ?_) | (refine g_b_add ?_; (refine st_val rfl (r_addN rfl rfl ?_ ?_) ?_; (first | omega | (simp <;> omega)); (first | omega | (simp <;> omega)))) | (refine g_b_sub ?_; (refine st_val rfl (r_subN rfl rfl ?_ ?_) ?_; (first | omega | (simp <;> omega)); (first | omega | (simp <;> omega)))) | (refine g_b_mul ?_; (refine st_val rfl (r_mulN rfl rfl ?_ ?_) ?_; (first | omega | (simp <;> omega)); (first | omega | (simp <;> omega)))) | (refine g_b_lss ?_; refine st_val rfl (r_lss rfl rfl) ?_) | (refine wl_split rfl rfl (fun h => ?_) (fun h => ?_) <;> (fail_if_success (have hh : true = true := h)) <;> (try simp only [decide_eq_true_eq, decide_eq_false_iff_not, Bool.not_eq_true', Bool.not_eq_false', Int.not_lt, Int.not_le] at h) <;> (try (exfalso; omega))))
  all_goals (refine end1 rfl rfl ⟨rb ?_, S.below⟩; unfold fitsI)
  · rw [decide_eq_true h, Bool.true_and]
  · rw [decide_eq_false (by omega), Bool.false_and]
theorem fitsI_iff {d a n : Int} (d0 : 0 ≤ d) (d1 : d ≤ 100) (a0 : 0 ≤ a) (n0 : 0 ≤ n) (n1 : n ≤ 10000000) : fitsI d a n = true ↔ leastS d n ≤ a ∧ a ≤ mostS d n := by
  unfold fitsI leastS mostS
  have hb : ¬ (d < 0 ∨ 100 < d ∨ n < 0 ∨ 10000000 < n) := by omega
  rw [if_neg hb, if_neg hb, Bool.and_eq_true, decide_eq_true_eq, decide_eq_true_eq, Int.le_ediv_iff_mul_le (by omega)]
  have e1 : a * (1000 - d) = (1000 - d) * a := Int.mul_comm _ _
  rw [e1]
  split
  · rename_i hn
    have e2 : 1000 * (n - 1) / (1000 + d) + 1 ≤ a ↔ 1000 * (n - 1) < a * (1000 + d) := by
      rw [← Int.ediv_lt_iff_lt_mul (by omega)]; omega
    rw [e2, Int.mul_comm a (1000 + d)]
    omega
  · have : 0 ≤ (1000 + d) * a := Int.mul_nonneg (by omega) a0
    omega
theorem least_most {d n : Int} (d0 : 0 ≤ d) (d1 : d ≤ 100) (n0 : 0 ≤ n) (n1 : n ≤ 10000000) : 0 ≤ leastS d n ∧ leastS d n ≤ n ∧ n ≤ mostS d n ∧ mostS d n ≤ 12000000 := by
  have hq := Int.ediv_nonneg (a := 1000 * (n + 1) - 1) (b := 1000 - d) (by omega) (by omega)
  have hb : ¬ (d < 0 ∨ 100 < d ∨ n < 0 ∨ 10000000 < n) := by omega
  unfold leastS mostS
  rw [if_neg hb, if_neg hb]
  have m1 : n ≤ (1000 * (n + 1) - 1) / (1000 - d) := by
    rw [Int.le_ediv_iff_mul_le (by omega), Int.mul_sub]
    have := Int.mul_nonneg n0 d0
    omega
  have m2 : (1000 * (n + 1) - 1) / (1000 - d) ≤ (1000 * (n + 1) - 1) / 900 := div_anti (by omega) (by omega) (by omega)
  split
  · have l1 := Int.ediv_nonneg (a := 1000 * (n - 1)) (b := 1000 + d) (by omega) (by omega)
    have l2 : 1000 * (n - 1) / (1000 + d) ≤ 1000 * (n - 1) / 1000 := div_anti (by omega) (by omega) (by omega)
    omega
  · omega
theorem fits_is {d a n : Int} {b : Bool} {w : World} (h : fitsI d a n = b) (d0 : 0 ≤ d) (d1 : d ≤ 100) (a0 : 0 ≤ a) (a1 : a ≤ 20000000) (n0 : 0 ≤ n) (n1 : n ≤ 10000000) :
    CallsV Try.prog 46 #[.int .i64 d, .int .i64 a, .int .i64 n] w (.bool b) := by rw [← h]; exact fits_spec d0 d1 a0 a1 n0 n1
theorem spreadR_spec {d n : Int} {w0 : World} : CallsV Try.prog 41 #[.int .i64 d, .int .i64 n] w0 (.tuple #[.int .i64 (leastS d n), .int .i64 (mostS d n)]) := by
  have S := St.start w0
  refine CallsV.mk ?_
  refine calls_enter Try.func41 rfl Try.ntmps41 rfl ?_
  by_cases hr : 0 ≤ d ∧ d ≤ 100 ∧ 0 ≤ n ∧ n ≤ 10000000
  · obtain ⟨d0, d1, n0, n1⟩ := hr
    obtain ⟨lm0, lm1, lm2, lm3⟩ := least_most d0 d1 n0 n1
    have hfit := fun a (a0 : 0 ≤ a) => fitsI_iff (d := d) (a := a) (n := n) d0 d1 a0 n0 n1
    obtain ⟨q, hq, hq0⟩ : ∃ q : Int, IntKind.i64.wrap ((1000 * (n - 1)).tdiv (1000 + d)) = q ∧ q - 1 ≤ leastS d n ∧ -2 ≤ q := by
      refine ⟨_, rfl, ?_⟩
      rw [IntKind.wrap_i64]
      by_cases hn : 0 < n
      · rw [Int.tdiv_eq_ediv_of_nonneg (by omega)]
        unfold leastS at lm0 lm1 ⊢
        rw [if_neg (by omega), if_pos hn] at *
        omega
      · obtain rfl : n = 0 := by omega
        have e : (1000 * ((0 : Int) - 1)).tdiv (1000 + d) = -((1000 : Int) / (1000 + d)) := by
          rw [show 1000 * ((0 : Int) - 1) = -1000 by rfl, Int.neg_tdiv, Int.tdiv_eq_ediv_of_nonneg (by omega)]
        have e2 := Int.ediv_nonneg (a := 1000) (b := 1000 + d) (by omega) (by omega)
        have e3 : (1000 : Int) / (1000 + d) ≤ 1000 / 1000 := div_anti (by omega) (by omega) (by omega)
        rw [e]
        omega
    repeat' (first | refine WP_seq ?_ | refine WP_region ?_ | refine wl_nil ?_ | refine then_normal ?_ | refine WP_skip ?_ | refine WP_block ?_ | (refine g_move ?_; refine st_move rfl ?_) | (refine g_assign ?_; refine st_assign rfl ?_) | (refine g_pick ?_; refine st_pickF rfl rfl ?_) | (refine g_b_add ?_; (refine st_val rfl (r_addN rfl rfl ?_ ?_) ?_; (first | omega | (simp <;> omega)); (first | omega | (simp <;> omega)))) | (refine g_b_sub ?_; (refine st_val rfl (r_subN rfl rfl ?_ ?_) ?_; (first | omega | (simp <;> omega)); (first | omega | (simp <;> omega)))) | (refine g_b_mul ?_; (refine st_val rfl (r_mulN rfl rfl ?_ ?_) ?_; (first | omega | (simp <;> omega)); (first | omega | (simp <;> omega)))) | (refine g_b_quo ?_; (refine st_val rfl (r_quo rfl rfl ?_) ?_; (first | omega | (simp <;> omega)))) | (refine g_b_lss ?_; refine st_val rfl (r_lss rfl rfl) ?_) | (refine g_b_gtr ?_; refine st_val rfl (r_gtr rfl rfl) ?_) | (refine g_c_max ?_; refine st_val rfl (r_max2 rfl rfl) ?_) | (refine wl_split rfl rfl (fun h => ?_) (fun h => ?_) <;> (fail_if_success (have hh : true = true := h)) <;> (try simp only [decide_eq_true_eq, decide_eq_false_iff_not, Bool.not_eq_true', Bool.not_eq_false', Int.not_lt, Int.not_le] at h) <;> (try (exfalso; omega))) | (refine WP_cond rfl (fun h => ?_) (fun h => ?_) <;> (fail_if_success (have hh : true = true := h)) <;> (try simp only [decide_eq_true_eq, decide_eq_false_iff_not, Bool.not_eq_true', Bool.not_eq_false', Int.not_lt, Int.not_le] at h) <;> (try (exfalso; omega))))
    refine WP_loop (fun k σ w1 => ∃ a : Int, Has σ [(0, .int .i64 d), (1, .int .i64 n), (6, .int .i64 a)] ∧ St w0 w1 [] ∧ 0 ≤ a ∧ a ≤ leastS d n ∧ k = (leastS d n - a).toNat) _ ⟨_, ⟨rfl, rfl, rfl, trivial⟩, S, by omega, by omega, rfl⟩ ?_
    rintro k σ w1 ⟨a, hs', S, a0, a1, rfl⟩
    refine WP_has hs' ?_
    by_cases ha : a < leastS d n
    · have hf : fitsI d a n = false := by rw [← Bool.not_eq_true, hfit a a0]; omega
      repeat' (first | refine WP_seq ?_ | refine WP_region ?_ | refine wl_nil ?_ | refine then_normal ?_ | refine inB_normal ?_ | refine WP_skip ?_ | refine WP_block ?_ | refine WP_condT rfl ?_ | (refine g_move ?_; refine st_move rfl ?_) | (refine g_assign ?_; refine st_assign rfl ?_) | (refine g_b_add ?_; (refine st_val rfl (r_addN rfl rfl ?_ ?_) ?_; (first | omega | (simp <;> omega)); (first | omega | (simp <;> omega)))) | (refine g_un ?_; refine st_val rfl (r_not rfl) ?_) | (refine g_callV ?_; (refine st_callV rfl (r_call3 rfl rfl rfl rfl) (fits_is hf d0 d1 a0 (by omega) n0 n1) ?_; intro w hb; replace S := S.grow hb; clear hb)))
      refine ⟨⟨_, ?_, a + 1, ⟨rfl, rfl, rfl, trivial⟩, S, by omega, by omega, rfl⟩⟩
      omega
    · have hf : fitsI d a n = true := by rw [hfit a a0]; omega
      obtain rfl : a = leastS d n := by omega
      obtain ⟨m0, hm, hm0⟩ : ∃ m0 : Int, 1000 * n / (1000 - d) = m0 ∧ 0 ≤ m0 ∧ m0 - 1 ≤ mostS d n := by
        refine ⟨_, rfl, Int.ediv_nonneg (by omega) (by omega), ?_⟩
        have hb : ¬ (d < 0 ∨ 100 < d ∨ n < 0 ∨ 10000000 < n) := by omega
        unfold mostS
        rw [if_neg hb]
        have := Int.ediv_le_ediv (a := 1000 * n) (b := 1000 * (n + 1) - 1) (c := 1000 - d) (by omega) (by omega)
        omega
      repeat' (first | refine WP_seq ?_ | refine WP_region ?_ | refine wl_nil ?_ | refine then_normal ?_ | refine then_exit ?_ | refine inB_here ?_ | refine WP_exit ?_ | refine WP_block ?_ | refine WP_condF rfl ?_ | (refine g_move ?_; refine st_move rfl ?_) | (refine g_assign ?_; refine st_assign rfl ?_) | (refine g_b_sub ?_; (refine st_val rfl (r_subN rfl rfl ?_ ?_) ?_; (first | omega | (simp <;> omega)); (first | omega | (simp <;> omega)))) | (refine g_b_mul ?_; (refine st_val rfl (r_mulN rfl rfl ?_ ?_) ?_; (first | omega | (simp <;> omega)); (first | omega | (simp <;> omega)))) | (refine g_b_quo ?_; (refine st_val rfl (r_quoN rfl rfl ?_ ?_ ?_) ?_; (first | omega | (simp <;> omega)); (first | omega | (simp <;> omega)); (first | omega | (simp <;> omega)))) | (refine g_un ?_; refine st_val rfl (r_not rfl) ?_) | (refine g_c_max ?_; refine st_val rfl (r_max2 rfl rfl) ?_) | (refine g_callV ?_; (refine st_callV rfl (r_call3 rfl rfl rfl rfl) (fits_is hf d0 d1 a0 (by omega) n0 n1) ?_; intro w hb; replace S := S.grow hb; clear hb)))
      refine WP_loop (fun k σ w1 => ∃ b : Int, Has σ [(0, .int .i64 d), (1, .int .i64 n), (6, .int .i64 (leastS d n)), (7, .int .i64 b)] ∧ St w0 w1 [] ∧ leastS d n ≤ b ∧ b ≤ mostS d n ∧ k = (mostS d n - b).toNat) _ ⟨_, ⟨rfl, rfl, rfl, rfl, trivial⟩, S, by omega, by omega, rfl⟩ ?_
      clear hs' S
      rintro k σ w1 ⟨b, hs', S, b0, b1, rfl⟩
      refine WP_has hs' ?_
      by_cases hb : b < mostS d n
      · have hf2 : fitsI d (b + 1) n = true := by rw [hfit (b + 1) (by omega)]; omega
        repeat' (first | refine WP_seq ?_ | refine WP_region ?_ | refine wl_nil ?_ | refine then_normal ?_ | refine inB_normal ?_ | refine WP_skip ?_ | refine WP_block ?_ | refine WP_condT rfl ?_ | (refine g_move ?_; refine st_move rfl ?_) | (refine g_assign ?_; refine st_assign rfl ?_) | (refine g_b_add ?_; (refine st_val rfl (r_addN rfl rfl ?_ ?_) ?_; (first | omega | (simp <;> omega)); (first | omega | (simp <;> omega)))) | (refine g_callV ?_; (refine st_callV rfl (r_call3 rfl rfl rfl rfl) (fits_is hf2 d0 d1 (by omega) (by omega) n0 n1) ?_; intro w hb; replace S := S.grow hb; clear hb)))
        refine ⟨⟨_, ?_, b + 1, ⟨rfl, rfl, rfl, rfl, trivial⟩, S, by omega, by omega, rfl⟩⟩
        omega
      · have hf2 : fitsI d (b + 1) n = false := by rw [← Bool.not_eq_true, hfit (b + 1) (by omega)]; omega
        obtain rfl : b = mostS d n := by omega
        repeat' (first | refine WP_seq ?_ | refine WP_region ?_ | refine wl_nil ?_ | refine then_normal ?_ | refine then_exit ?_ | refine inB_here ?_ | refine WP_ret ?_ | refine WP_exit ?_ | refine WP_condF rfl ?_ | (refine g_move ?_; refine st_move rfl ?_) | (refine g_assign ?_; refine st_assign rfl ?_) | (refine g_b_add ?_; (refine st_val rfl (r_addN rfl rfl ?_ ?_) ?_; (first | omega | (simp <;> omega)); (first | omega | (simp <;> omega)))) | (refine g_callV ?_; (refine st_callV rfl (r_call3 rfl rfl rfl rfl) (fits_is hf2 d0 d1 (by omega) (by omega) n0 n1) ?_; intro w hb; replace S := S.grow hb; clear hb)))
        exact end2 (v := .int .i64 _) (v2 := .int .i64 _) rfl rfl rfl ⟨rfl, S.below⟩
  · repeat' (first | refine WP_seq ?_ | refine WP_region ?_ | refine wl_nil ?_ | refine then_normal ?_ | refine then_ret ?_ | refine WP_ret ?_ | refine WP_condT rfl ?_ | (refine g_guard ?_; refine st_off rfl ?_) | (refine g_move ?_; refine st_move rfl ?_) | (refine g_assign ?_; refine st_assign rfl ?_) | (refine g_pick ?_; first | refine st_pickT rfl rfl ?_ | refine st_pickF rfl rfl ?_) | (refine g_b_lss ?_; refine st_val rfl (r_lss rfl rfl) ?_) | (refine g_b_gtr ?_; refine st_val rfl (r_gtr rfl rfl) ?_) | (refine wl_split rfl rfl (fun h => ?_) (fun h => ?_) <;> (fail_if_success (have hh : true = true := h)) <;> (try simp only [decide_eq_true_eq, decide_eq_false_iff_not, Bool.not_eq_true', Bool.not_eq_false', Int.not_lt, Int.not_le] at h) <;> (try (exfalso; omega))) | (refine WP_cond rfl (fun h => ?_) (fun h => ?_) <;> (fail_if_success (have hh : true = true := h)) <;> (try simp only [decide_eq_true_eq, decide_eq_false_iff_not, Bool.not_eq_true', Bool.not_eq_false', Int.not_lt, Int.not_le] at h) <;> (try (exfalso; omega))))
    all_goals (refine end2 (v := .int .i64 _) (v2 := .int .i64 _) rfl rfl rfl ⟨rt2 ?_ ?_, S.below⟩)
    all_goals (first | unfold leastS | unfold mostS)
    all_goals ((repeat' split) <;> first | rfl | omega)
theorem overR_spec {x : GLease} {t : Int} {w : World} : CallsV Try.prog 25 #[.agg x.enc.toArray, .int .i64 t] w (.bool (overL x t)) := by
  have S := St.start w
  refine CallsV.mk ?_
  refine calls_enter Try.func25 rfl Try.ntmps25 rfl ?_
  repeat' (first | refine WP_seq ?_ | refine WP_region ?_ | refine wl_nil ?_ | refine then_normal ?_ | refine WP_ret ?_ | (refine g_move ?_; refine st_move rfl ?_) | (refine g_assign ?_; refine st_assign rfl ?_) | (refine g_b_geq ?_; refine st_val rfl (r_geq rfl rfl) ?_) | (refine g_fieldAddr ?_; refine st_val rfl (r_fieldAddrL rfl) ?_) | (refine g_load ?_; refine st_val rfl (r_loadVar (i := 0) S rfl rfl rfl) ?_) | (refine g_box ?_; refine st_valE rfl (r_box S rfl) ?_; rintro _ w ⟨b, rfl, -, S'⟩; replace S := S'; clear S'))
  all_goals (exact end1 rfl rfl ⟨rfl, S.below⟩)
end Go.Proofs.Ytaoicaldhllbfaa
