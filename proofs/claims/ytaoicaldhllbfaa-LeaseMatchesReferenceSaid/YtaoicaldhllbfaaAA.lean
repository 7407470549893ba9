import Derived.Test.YtaoicaldhllbfaaZ
namespace Go.Proofs.Ytaoicaldhllbfaa
open Go Go.Gx Go.RowKit
set_option linter.unusedVariables false
set_option linter.unusedSimpArgs false

theorem in_true {n lo hi : Int} {w : World} (h : inR n lo hi = true) : CallsV Try.prog 35 #[.int .i64 n, .int .i64 lo, .int .i64 hi] w (.bool true) := by
  rw [← h]; exact in_spec
theorem safeR_spec {n hub own : Int} {w0 : World} : CallsV Try.prog 21 #[.int .i64 n, .int .i64 hub, .int .i64 own] w0 (.int .i64 (safeN n hub own)) := by
  have S := St.start w0
  refine CallsV.mk ?_
  refine calls_enter Try.func21 rfl Try.ntmps21 rfl ?_
  by_cases hall : inR n 1 3600 = true ∧ inR hub 0 100 = true ∧ inR own 0 100 = true
  · obtain ⟨e1, e2, e3⟩ := hall
    have f1 := inR_iff.1 e1
    have f2 := inR_iff.1 e2
    have f3 := inR_iff.1 e3
    have ev := safeN_eq f1 f2 f3
    have hrg := safeN_range (n := n) (h := hub) (o := own)
    repeat' (first | refine WP_seq ?_ | refine WP_region ?_ | refine wl_nil ?_ | refine then_normal ?_ | refine WP_skip ?_ | refine WP_block ?_ | refine WP_condF rfl ?_ | (refine g_move ?_; refine st_move rfl ?_) | (refine g_assign ?_; refine st_assign rfl ?_) | (refine g_pick ?_; refine st_pickF rfl rfl ?_) | (refine g_un ?_; refine st_val rfl (r_not rfl) ?_) | (refine g_extract ?_; refine st_val rfl (r_extract rfl rfl) ?_) | (refine g_callV ?_; first | (refine st_callV rfl (r_call3 rfl rfl rfl rfl) (in_true (by assumption)) ?_; intro w hb; replace S := S.grow hb; clear hb) | (refine st_callV rfl (r_call2 rfl rfl rfl) (spreadR_spec) ?_; intro w hb; replace S := S.grow hb; clear hb)))
    refine WP_loop (fun k σ w1 => ∃ m : Int, Has σ [(1, .int .i64 hub), (7, .int .i64 (leastS own n)), (9, .int .i64 m)] ∧ St w0 w1 [] ∧ 0 ≤ m ∧ m ≤ safeN n hub own ∧ k = (safeN n hub own - m).toNat) _ ⟨0, ⟨rfl, rfl, rfl, trivial⟩, S, by omega, by omega, rfl⟩ ?_
    clear S
    rintro k σ w1 ⟨m, hs', S, m0, m1, rfl⟩
    refine WP_has hs' ?_
    have hp := safeP_iff (h := hub) (k := leastS own n) (m := m) f2.1 f2.2 m0 (by omega)
    unfold safeP at hp
    rw [decide_eq_true_eq, ← ev] at hp
    repeat' (first | refine WP_seq ?_ | refine WP_region ?_ | refine wl_nil ?_ | refine then_normal ?_ | refine inB_normal ?_ | refine then_ret ?_ | refine inB_ret ?_ | refine WP_ret ?_ | refine WP_skip ?_ | refine WP_block ?_ | (refine g_move ?_; refine st_move rfl ?_) | (refine g_assign ?_; refine st_assign rfl ?_) | (refine g_b_add ?_; (refine st_val rfl (r_addN rfl rfl ?_ ?_) ?_; (first | omega | (simp <;> omega)); (first | omega | (simp <;> omega)))) | (refine g_b_geq ?_; refine st_val rfl (r_geq rfl rfl) ?_) | (refine g_extract ?_; refine st_val rfl (r_extract rfl rfl) ?_) | (refine g_callV ?_; (refine st_callV rfl (r_call2 rfl rfl rfl) (spreadR_spec) ?_; intro w hb; replace S := S.grow hb; clear hb)) | (refine WP_cond rfl (fun h => ?_) (fun h => ?_) <;> (fail_if_success (have hh : true = true := h)) <;> (try simp only [decide_eq_true_eq, decide_eq_false_iff_not, Bool.not_eq_true', Bool.not_eq_false', Int.not_lt, Int.not_le] at h) <;> (try (exfalso; omega))))
    · have := hp.1 (by omega)
      exact end1 rfl rfl ⟨ri (by omega), S.below⟩
    · have : ¬ safeN n hub own ≤ m := fun hh => by have := hp.2 hh; omega
      refine ⟨⟨_, ?_, m + 1, ⟨rfl, rfl, rfl, trivial⟩, S, by omega, by omega, rfl⟩⟩
      omega
  · repeat' (first | refine WP_seq ?_ | refine WP_region ?_ | refine wl_nil ?_ | refine then_normal ?_ | refine then_ret ?_ | refine WP_ret ?_ | refine WP_skip ?_ | refine WP_block ?_ | refine WP_condT rfl ?_ | (refine g_guard ?_; refine st_off rfl ?_) | (refine g_move ?_; refine st_move rfl ?_) | (refine g_assign ?_; refine st_assign rfl ?_) | (refine g_pick ?_; first | refine st_pickT rfl rfl ?_ | refine st_pickF rfl rfl ?_) | (refine g_un ?_; refine st_val rfl (r_not rfl) ?_) | (refine g_extract ?_; refine st_val rfl (r_extract rfl rfl) ?_) | (refine g_callV ?_; first | (refine st_callV rfl (r_call3 rfl rfl rfl rfl) (in_spec) ?_; intro w hb; replace S := S.grow hb; clear hb) | (refine st_callV rfl (r_call2 rfl rfl rfl) (spreadR_spec) ?_; intro w hb; replace S := S.grow hb; clear hb)) | (refine wl_split rfl rfl (fun h => ?_) (fun h => ?_) <;> (fail_if_success (have hh : true = true := h)) <;> (try simp only [decide_eq_true_eq, decide_eq_false_iff_not, Bool.not_eq_true', Bool.not_eq_false', Int.not_lt, Int.not_le] at h) <;> (try (exfalso; omega))) | (refine WP_cond rfl (fun h => ?_) (fun h => ?_) <;> (fail_if_success (have hh : true = true := h)) <;> (try simp only [decide_eq_true_eq, decide_eq_false_iff_not, Bool.not_eq_true', Bool.not_eq_false', Int.not_lt, Int.not_le] at h) <;> (try (exfalso; omega))))
    all_goals first | (refine end1 rfl rfl ⟨ri ?_, S.below⟩; simp_all [safeN]; done) | (exfalso; simp_all)
theorem holdsR_spec {x : GLease} {hub own t : Int} {w : World} (ht : inI t) (ha : inI x.Asked) : CallsV Try.prog 23 #[.agg x.enc.toArray, .int .i64 hub, .int .i64 own, .int .i64 t] w (.bool (holdsL x hub own t)) := by
  have S := St.start w
  have hs := safeN_range (n := x.Length) (h := hub) (o := own)
  unfold inI at ht ha
  refine CallsV.mk ?_
  refine calls_enter Try.func23 rfl Try.ntmps23 rfl ?_
  repeat' (first | refine WP_seq ?_ | refine WP_region ?_ | refine wl_nil ?_ | refine then_normal ?_ | refine WP_ret ?_ | (refine g_guard ?_; refine st_off rfl ?_) | (refine g_move ?_; refine st_move rfl ?_) | (refine g_assign ?_; refine st_assign rfl ?_) | (refine g_pick ?_; first | refine st_pickT rfl rfl ?_ | refine st_pickF rfl rfl ?_) | (refine g_b_sub ?_; refine st_val rfl (r_sub rfl rfl) ?_) | (refine g_b_lss ?_; refine st_val rfl (r_lss rfl rfl) ?_) | (refine g_b_geq ?_; refine st_val rfl (r_geq rfl rfl) ?_) | (refine g_fieldAddr ?_; refine st_val rfl (r_fieldAddrL rfl) ?_) | (refine g_load ?_; refine st_val rfl (r_loadVar (i := 0) S rfl rfl rfl) ?_) | (refine g_callV ?_; (refine st_callV rfl (r_call3 rfl rfl rfl rfl) (safeR_spec) ?_; intro w hb; replace S := S.grow hb; clear hb)) | (refine g_box ?_; refine st_valE rfl (r_box S rfl) ?_; rintro _ w ⟨b, rfl, -, S'⟩; replace S := S'; clear S') | (refine wl_split rfl rfl (fun h => ?_) (fun h => ?_) <;> (fail_if_success (have hh : true = true := h)) <;> (try simp only [decide_eq_true_eq, decide_eq_false_iff_not, Bool.not_eq_true', Bool.not_eq_false', Int.not_lt, Int.not_le] at h) <;> (try (exfalso; omega))))
  · refine end1 rfl rfl ⟨rb ?_, S.below⟩
    rw [IntKind.wrap_i64] at *
    unfold holdsL
    rw [Bool.eq_iff_iff, Bool.and_eq_true, decide_eq_true_eq, decide_eq_true_eq, decide_eq_true_eq]
    omega
  · refine end1 rfl rfl ⟨rb ?_, S.below⟩
    rw [IntKind.wrap_i64] at *
    unfold holdsL
    rw [decide_eq_false (p := t - x.Asked < safeN x.Length hub own) (by omega), Bool.and_false]
  · refine end1 rfl rfl ⟨rb ?_, S.below⟩
    unfold holdsL
    rw [decide_eq_false (by omega), Bool.false_and]
end Go.Proofs.Ytaoicaldhllbfaa
