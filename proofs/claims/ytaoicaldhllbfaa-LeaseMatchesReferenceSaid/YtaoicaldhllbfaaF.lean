import Derived.Test.YtaoicaldhllbfaaE
namespace Go.Proofs.Ytaoicaldhllbfaa
open Go Go.Gx Go.RowKit
set_option linter.unusedVariables false
set_option linter.unusedSimpArgs false

def safeN (n h o : Int) : Int := if inR n 1 3600 && inR h 0 100 && inR o 0 100 then leastS o n * (1000 - h) / 1000 else 0
theorem least_range {o n : Int} (h0 : 0 ≤ o) (h1 : o ≤ 100) (h2 : 1 ≤ n) (h3 : n ≤ 3600) : 1 ≤ leastS o n ∧ leastS o n ≤ n := by
  unfold leastS
  rw [if_neg (by omega), if_pos (by omega)]
  have a := Int.ediv_nonneg (a := 1000 * (n - 1)) (b := 1000 + o) (by omega) (by omega)
  have b : 1000 * (n - 1) / (1000 + o) ≤ n - 1 := by
    refine Int.ediv_le_of_le_mul (by omega) ?_
    rw [Int.mul_comm]
    exact Int.mul_le_mul_of_nonneg_left (by omega) (by omega)
  omega
theorem safeP_iff {h k m : Int} (h0 : 0 ≤ h) (h1 : h ≤ 100) (hm : 0 ≤ m) (hm1 : m ≤ 10000000) : safeP h k m = true ↔ k * (1000 - h) / 1000 ≤ m := by
  unfold safeP mostS
  rw [if_neg (by omega), decide_eq_true_eq, Int.le_ediv_iff_mul_le (by omega)]
  omega
theorem within_true {n lo hi : Int} {w : World} (h : inR n lo hi = true) : CallsV Try.prog 30 #[.int .i64 n, .int .i64 lo, .int .i64 hi] w (.bool true) := by
  rw [← h]; exact within_spec
theorem inR_iff {n lo hi : Int} : inR n lo hi = true ↔ lo ≤ n ∧ n ≤ hi := by simp [inR]
theorem safeP_lo {h k m : Int} (h0 : 0 ≤ h) (h1 : h ≤ 100) (hm : 0 ≤ m) (hm1 : m ≤ 10000000) (hlt : m < k * (1000 - h) / 1000) : safeP h k m = false := by
  rw [← Bool.not_eq_true, safeP_iff h0 h1 hm hm1]; omega
theorem safe_spec {n hub own : Int} {w : World} : CallsV Try.prog 20 #[.int .i64 n, .int .i64 hub, .int .i64 own] w (.int .i64 (safeN n hub own)) := by
  have S := St.start w
  refine CallsV.mk ?_
  refine calls_enter Try.func20 rfl Try.ntmps20 rfl ?_
  by_cases hall : inR n 1 3600 = true ∧ inR hub 0 100 = true ∧ inR own 0 100 = true
  · obtain ⟨e1, e2, e3⟩ := hall
    have ev : safeN n hub own = leastS own n * (1000 - hub) / 1000 := by unfold safeN; rw [e1, e2, e3]; rfl
    have f1 := inR_iff.1 e1
    have f2 := inR_iff.1 e2
    have f3 := inR_iff.1 e3
    have fl := least_range f3.1 f3.2 f1.1 f1.2
    have fm1 : 0 ≤ leastS own n * (1000 - hub) := Int.mul_nonneg (by omega) (by omega)
    have fm2 : leastS own n * (1000 - hub) ≤ 3600 * 1000 := Int.mul_le_mul (by omega) (by omega) (by omega) (by omega)
    repeat' (first | refine WP_seq ?_ | refine WP_region ?_ | refine wl_nil ?_ | refine then_normal ?_ | refine WP_ret ?_ | refine WP_skip ?_ | refine WP_condF rfl ?_ | (refine g_move ?_; refine st_move rfl ?_) | (refine g_assign ?_; refine st_assign rfl ?_) | (refine g_pick ?_; refine st_pickF rfl rfl ?_) | (refine g_un ?_; refine st_val rfl (r_not rfl) ?_) | (refine g_extract ?_; refine st_val rfl (r_extract rfl rfl) ?_) | (refine g_makeFunc ?_; refine st_val rfl (r_makeFn2 rfl rfl) ?_) | (refine g_load ?_; refine st_val rfl (r_loadVar (i := 0) S rfl rfl rfl) ?_) | (refine g_callV ?_; first | (refine st_callV rfl (r_call3 rfl rfl rfl rfl) (within_true (by assumption)) ?_; intro w hb; replace S := S.grow hb; clear hb) | (refine st_callV rfl (r_call2 rfl rfl rfl) (spread_spec) ?_; intro w hb; replace S := S.grow hb; clear hb) | (refine st_callV rfl (r_call2 rfl rfl rfl) (search_spec (cl := [_, _]) (p := safeP hub (leastS own n)) (r := leastS own n * (1000 - hub) / 1000) (by omega) (by omega) (by omega) (fun j h0 h1 => safeP_lo f2.1 f2.2 h0 (by omega) h1) (fun j h0 h1 => (safeP_iff f2.1 f2.2 (by omega) (by omega)).2 h0) (fun x w' hb _ _ => safe1_spec ((S.var (i := 0) rfl).mono hb) ((S.var (i := 1) rfl).mono hb))) ?_; intro w hb; replace S := S.grow hb; clear hb)) | (refine g_box ?_; refine st_valE rfl (r_box S rfl) ?_; rintro _ w ⟨b, rfl, -, S'⟩; replace S := S'; clear S') | (refine g_alloc ?_; refine st_valE rfl (r_alloc S) ?_; rintro _ w ⟨b, rfl, -, S'⟩; replace S := S'; clear S') | (refine g_store ?_; first | (refine st_skipE rfl (r_storeVar (i := 0) S rfl rfl rfl rfl (of_decide_eq_true rfl) (of_decide_eq_true rfl)) ?_; intro w S'; replace S := S'; clear S') | (refine st_skipE rfl (r_storeVar (i := 1) S rfl rfl rfl rfl (of_decide_eq_true rfl) (of_decide_eq_true rfl)) ?_; intro w S'; replace S := S'; clear S') | (refine st_skipE rfl (r_storeVar (i := 2) S rfl rfl rfl rfl (of_decide_eq_true rfl) (of_decide_eq_true rfl)) ?_; intro w S'; replace S := S'; clear S')))
    exact end1 rfl rfl ⟨ri ev.symm, S.below⟩
  · repeat' (first | refine WP_seq ?_ | refine WP_region ?_ | refine wl_nil ?_ | refine then_normal ?_ | refine then_ret ?_ | refine WP_ret ?_ | refine WP_skip ?_ | refine WP_condT rfl ?_ | (refine g_guard ?_; refine st_off rfl ?_) | (refine g_move ?_; refine st_move rfl ?_) | (refine g_assign ?_; refine st_assign rfl ?_) | (refine g_pick ?_; first | refine st_pickT rfl rfl ?_ | refine st_pickF rfl rfl ?_) | (refine g_un ?_; refine st_val rfl (r_not rfl) ?_) | (refine g_extract ?_; refine st_val rfl (r_extract rfl rfl) ?_) | (refine g_makeFunc ?_; refine st_val rfl (r_makeFn2 rfl rfl) ?_) | (refine g_load ?_; refine st_val rfl (r_loadVar (i := 0) S rfl rfl rfl) ?_) | (refine g_callV ?_; first | (refine st_callV rfl (r_call3 rfl rfl rfl rfl) (within_spec) ?_; intro w hb; replace S := S.grow hb; clear hb) | (refine st_callV rfl (r_call2 rfl rfl rfl) (spread_spec) ?_; intro w hb; replace S := S.grow hb; clear hb)) | (refine g_box ?_; refine st_valE rfl (r_box S rfl) ?_; rintro _ w ⟨b, rfl, -, S'⟩; replace S := S'; clear S') | (refine g_alloc ?_; refine st_valE rfl (r_alloc S) ?_; rintro _ w ⟨b, rfl, -, S'⟩; replace S := S'; clear S') | (refine g_store ?_; first | (refine st_skipE rfl (r_storeVar (i := 0) S rfl rfl rfl rfl (of_decide_eq_true rfl) (of_decide_eq_true rfl)) ?_; intro w S'; replace S := S'; clear S') | (refine st_skipE rfl (r_storeVar (i := 1) S rfl rfl rfl rfl (of_decide_eq_true rfl) (of_decide_eq_true rfl)) ?_; intro w S'; replace S := S'; clear S') | (refine st_skipE rfl (r_storeVar (i := 2) S rfl rfl rfl rfl (of_decide_eq_true rfl) (of_decide_eq_true rfl)) ?_; intro w S'; replace S := S'; clear S')) | (refine wl_split rfl rfl (fun h => ?_) (fun h => ?_) <;> (fail_if_success (have hh : true = true := h)) <;> (try simp only [decide_eq_true_eq, decide_eq_false_iff_not, Bool.not_eq_true', Bool.not_eq_false', Int.not_lt, Int.not_le] at h) <;> (try (exfalso; omega))) | (refine WP_cond rfl (fun h => ?_) (fun h => ?_) <;> (fail_if_success (have hh : true = true := h)) <;> (try simp only [decide_eq_true_eq, decide_eq_false_iff_not, Bool.not_eq_true', Bool.not_eq_false', Int.not_lt, Int.not_le] at h) <;> (try (exfalso; omega))))
    all_goals first | (refine end1 rfl rfl ⟨ri ?_, S.below⟩; simp_all [safeN]; done) | (exfalso; simp_all)
end Go.Proofs.Ytaoicaldhllbfaa
