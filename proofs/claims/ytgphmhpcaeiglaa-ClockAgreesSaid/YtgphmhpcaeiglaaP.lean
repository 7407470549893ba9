import Derived.Test.YtgphmhpcaeiglaaO
namespace Go.Proofs.Ytgphmhpcaeiglaa
open Go Go.Gx Go.RowKit
set_option linter.unusedVariables false
set_option linter.unusedSimpArgs false

theorem fits_prop {d a n : Int} (d0 : 0 ≤ d) (d1 : d ≤ 100) (a0 : 0 ≤ a) (n0 : 0 ≤ n) (n1 : n ≤ 10000000) : ((1000 - d) * a - 1000 < 1000 * n ∧ 1000 * n < (1000 + d) * a + 1000) ↔ leastS d n ≤ a ∧ a ≤ mostS d n := by
  rw [← fitsI_iff d0 d1 a0 n0 n1]; simp [fitsI]
theorem least_drift {d e n : Int} (d0 : 0 ≤ d) (h : d ≤ e) (e1 : e ≤ 100) (n0 : 0 ≤ n) (n1 : n ≤ 10000000) : leastS e n ≤ leastS d n := by
  unfold leastS
  rw [if_neg (show ¬ (d < 0 ∨ 100 < d ∨ n < 0 ∨ 10000000 < n) by omega), if_neg (show ¬ (e < 0 ∨ 100 < e ∨ n < 0 ∨ 10000000 < n) by omega)]
  split
  · have := div_anti (X := 1000 * (n - 1)) (d := 1000 + d) (d' := 1000 + e) (by omega) (by omega) (by omega); omega
  · omega
theorem most_drift {d e n : Int} (d0 : 0 ≤ d) (h : d ≤ e) (e1 : e ≤ 100) (n0 : 0 ≤ n) (n1 : n ≤ 10000000) : mostS d n ≤ mostS e n := by
  unfold mostS
  rw [if_neg (show ¬ (d < 0 ∨ 100 < d ∨ n < 0 ∨ 10000000 < n) by omega), if_neg (show ¬ (e < 0 ∨ 100 < e ∨ n < 0 ∨ 10000000 < n) by omega)]
  exact div_anti (by omega) (by omega) (by omega)
theorem spread_zero {n : Int} (n0 : 0 ≤ n) (n1 : n ≤ 10000000) : leastS 0 n = n ∧ mostS 0 n = n := by
  unfold leastS mostS
  rw [if_neg (show ¬ ((0:Int) < 0 ∨ 100 < (0:Int) ∨ n < 0 ∨ 10000000 < n) by omega), if_neg (show ¬ ((0:Int) < 0 ∨ 100 < (0:Int) ∨ n < 0 ∨ 10000000 < n) by omega)]
  split <;> omega
theorem mem_six {P : Int → Prop} {a b c d e f : Int} (h1 : P a) (h2 : P b) (h3 : P c) (h4 : P d) (h5 : P e) (h6 : P f) : ∀ x ∈ [a, b, c, d, e, f], P x := by
  intro x hx; simp at hx; rcases hx with rfl | rfl | rfl | rfl | rfl | rfl <;> assumption

set_option maxRecDepth 8000 in
set_option maxHeartbeats 2000000 in
theorem clockExact_spec {dr more n0 m0 x : Int} {w0 : World} (i0 : inI dr) (i1 : inI more) (i2 : inI n0) (i3 : inI m0) (i4 : inI x) :
    CallsV Try.prog 4 #[.int .i64 dr, .int .i64 more, .int .i64 n0, .int .i64 m0, .int .i64 x] w0 (.bool true) := by
  have S := St.start w0
  unfold inI at i0 i1 i2 i3 i4
  obtain ⟨d, hd⟩ : ∃ z, pickI dr 101 = z := ⟨_, rfl⟩
  have rd := pickI_range (c := dr) (n := 101) (by omega)
  rw [hd] at rd
  obtain ⟨n, hn⟩ : ∃ z, pickI n0 10000001 = z := ⟨_, rfl⟩
  have rn := pickI_range (c := n0) (n := 10000001) (by omega)
  rw [hn] at rn
  obtain ⟨m, hm⟩ : ∃ z, pickI m0 (10000001 - n) = z := ⟨_, rfl⟩
  have rm := pickI_range (c := m0) (n := 10000001 - n) (by omega)
  rw [hm] at rm
  obtain ⟨p, hp⟩ : ∃ z, pickI x 20000000 = z := ⟨_, rfl⟩
  have rp := pickI_range (c := x) (n := 20000000) (by omega)
  rw [hp] at rp
  obtain ⟨e, he⟩ : ∃ z, pickI more (101 - d) = z := ⟨_, rfl⟩
  have re := pickI_range (c := more) (n := 101 - d) (by omega)
  rw [he] at re
  have lm := least_most (d := d) (n := n) (by omega) (by omega) (by omega) (by omega)
  have hfit := fun a (a0 : 0 ≤ a) => fits_prop (d := d) (a := a) (n := n) (by omega) (by omega) a0 (by omega) (by omega)
  have f1 := least_mono (d := d) (n := n) (m := n + m) (by omega) (by omega) (by omega) (by omega) (by omega)
  have f2 := most_mono (d := d) (n := n) (m := n + m) (by omega) (by omega) (by omega) (by omega) (by omega)
  have f3 := least_drift (d := d) (e := d + e) (n := n) (by omega) (by omega) (by omega) (by omega) (by omega)
  have f4 := most_drift (d := d) (e := d + e) (n := n) (by omega) (by omega) (by omega) (by omega) (by omega)
  have f5 := spread_zero (n := n) (by omega) (by omega)
  have sp : ∀ w, CallsV Try.prog 10 #[.int .i64 d, .int .i64 n] w (.tuple #[.int .i64 (leastS d n), .int .i64 (mostS d n)]) := fun w => spread_spec
  generalize leastS d n = low at *
  generalize mostS d n = high at *
  obtain ⟨q, hq⟩ : ∃ z, pickI x (high - low + 1) = z := ⟨_, rfl⟩
  have rq := pickI_range (c := x) (n := high - low + 1) (by omega)
  rw [hq] at rq
  refine CallsV.mk ?_
  refine calls_enter Try.func4 rfl Try.ntmps4 rfl ?_
  repeat' (first | refine WP_seq ?_ | refine WP_region ?_ | refine wl_nil ?_ | refine then_normal ?_ | refine WP_skip ?_ | refine WP_condF rfl ?_ | (refine g_move ?_; refine st_move rfl ?_) | (refine g_assign ?_; refine st_assign rfl ?_) | (refine g_pick ?_; refine st_pickF rfl rfl ?_) | (refine g_b_add ?_; (refine st_val rfl (r_addN rfl rfl ?_ ?_) ?_; (first | omega | (simp <;> omega)); (first | omega | (simp <;> omega)))) | (refine g_b_sub ?_; (refine st_val rfl (r_subN rfl rfl ?_ ?_) ?_; (first | omega | (simp <;> omega)); (first | omega | (simp <;> omega)))) | (refine g_b_lss ?_; refine st_val rfl (r_lss rfl rfl) ?_) | (refine g_b_gtr ?_; refine st_val rfl (r_gtr rfl rfl) ?_) | (refine g_un ?_; refine st_val rfl (r_not rfl) ?_) | (refine g_extract ?_; refine st_val rfl (r_extract rfl rfl) ?_) | (refine g_callV ?_; first | (refine st_callV rfl (r_call0 rfl) (sane_spec) ?_; intro w hb; replace S := S.grow hb; clear hb) | (refine st_callV rfl (r_call2 rfl rfl rfl) (pick_is hd (by omega) (by omega) (by omega)) ?_; intro w hb; replace S := S.grow hb; clear hb) | (refine st_callV rfl (r_call2 rfl rfl rfl) (pick_is hn (by omega) (by omega) (by omega)) ?_; intro w hb; replace S := S.grow hb; clear hb) | (refine st_callV rfl (r_call2 rfl rfl rfl) (pick_is hm (by omega) (by omega) (by omega)) ?_; intro w hb; replace S := S.grow hb; clear hb) | (refine st_callV rfl (r_call2 rfl rfl rfl) (sp _) ?_; intro w hb; replace S := S.grow hb; clear hb) | (refine st_callV rfl (r_call2 rfl rfl rfl) (pick_is hp (by omega) (by omega) (by omega)) ?_; intro w hb; replace S := S.grow hb; clear hb) | (refine st_callV rfl (r_call2 rfl rfl rfl) (pick_is hq (by omega) (by omega) (by omega)) ?_; intro w hb; replace S := S.grow hb; clear hb)) | (refine wl_split rfl rfl (fun h => ?_) (fun h => ?_) <;> (fail_if_success (have hh : true = true := h)) <;> (try simp only [decide_eq_true_eq, decide_eq_false_iff_not, Bool.not_eq_true', Bool.not_eq_false', Int.not_lt, Int.not_le] at h) <;> (try (exfalso; omega))) | (refine WP_cond rfl (fun h => ?_) (fun h => ?_) <;> (fail_if_success (have hh : true = true := h)) <;> (try simp only [decide_eq_true_eq, decide_eq_false_iff_not, Bool.not_eq_true', Bool.not_eq_false', Int.not_lt, Int.not_le] at h) <;> (try (exfalso; omega))))
  refine st_valE rfl (r_litF (D := fInt .i64) [low - 1, low, high, high + 1, p, low + q] (Value.int .i64) S rfl rfl (fun _ => rfl) rfl (by decide) (by decide)) ?_
  rintro _ w ⟨b1, rfl, -, -, S'⟩; replace S := S'; clear S'
  obtain ⟨L, hL⟩ : ∃ L : List Int, L = [low - 1, low, high, high + 1, p, low + q] := ⟨_, rfl⟩
  have hL6 : L.length = 6 := by rw [hL]; rfl
  have hLr : ∀ a ∈ L, -1 ≤ a ∧ a ≤ 20000000 := by rw [hL]; exact mem_six (by omega) (by omega) (by omega) (by omega) (by omega) (by omega)
  repeat' (first | refine WP_seq ?_ | refine WP_region ?_ | refine wl_nil ?_ | refine then_normal ?_ | refine WP_block ?_ | (refine g_assign ?_; refine st_assign rfl ?_))
  refine WP_loop (fun k σ w1 => ∃ i : Int, Has σ [(1, .int .i64 more), (2, .int .i64 n), (3, .int .i64 (n + m)), (12, .int .i64 d), (13, .int .i64 low), (14, .int .i64 high), (15, .slice (some ⟨b1, 0, none⟩) 6 6), (16, .int .i64 i)] ∧ St w0 w1 [rowOb (fInt .i64) 3 (.slice (some ⟨b1, 0, none⟩) 6 6) L] ∧ 0 ≤ i ∧ i ≤ 6 ∧ k = 6 - i.toNat) 6 ⟨0, ⟨rfl, rfl, rfl, rfl, rfl, rfl, rfl, rfl, trivial⟩, (by rw [hL]; exact S), by omega, by omega, by omega⟩ ?_
  clear S
  rintro k σ w1 ⟨i, hs', S, a0, a1, rfl⟩
  refine WP_has hs' ?_
  by_cases hi : i < 6
  · have hr := hLr _ (nth_mem a0 (by omega))
    by_cases ha : 0 ≤ nth L i
    · have b1' : 0 ≤ (1000 - d) * nth L i := Int.mul_nonneg (by omega) ha
      have b2 : (1000 - d) * nth L i ≤ 1000 * 20000000 := Int.mul_le_mul (by omega) hr.2 ha (by omega)
      have b3 : 0 ≤ (1000 + d) * nth L i := Int.mul_nonneg (by omega) ha
      have b4 : (1000 + d) * nth L i ≤ 1100 * 20000000 := Int.mul_le_mul (by omega) hr.2 ha (by omega)
      have hf := hfit _ ha
      repeat' (first | refine WP_seq ?_ | refine WP_region ?_ | refine wl_nil ?_ | refine then_normal ?_ | refine inB_normal ?_ | refine then_ret ?_ | refine inB_ret ?_ | refine WP_ret ?_ | refine WP_skip ?_ | refine WP_block ?_ | refine WP_condF rfl ?_ | (refine g_guard ?_; refine st_off rfl ?_) | (refine g_move ?_; refine st_move rfl ?_) | (refine g_assign ?_; refine st_assign rfl ?_) | (refine g_pick ?_; first | refine st_pickT rfl rfl ?_ | refine st_pickF rfl rfl ?_) | (refine g_b_add ?_; (refine st_val rfl (r_addN rfl rfl ?_ ?_) ?_; (first | omega | (simp <;> omega)); (first | omega | (simp <;> omega)))) | (refine g_b_sub ?_; (refine st_val rfl (r_subN rfl rfl ?_ ?_) ?_; (first | omega | (simp <;> omega)); (first | omega | (simp <;> omega)))) | (refine g_b_mul ?_; (refine st_val rfl (r_mulN rfl rfl ?_ ?_) ?_; (first | omega | (simp <;> omega)); (first | omega | (simp <;> omega)))) | (refine g_b_neq ?_; refine st_val rfl (r_neqB rfl rfl) ?_) | (refine g_b_lss ?_; refine st_val rfl (r_lss rfl rfl) ?_) | (refine g_b_leq ?_; refine st_val rfl (r_leq rfl rfl) ?_) | (refine g_b_geq ?_; refine st_val rfl (r_geq rfl rfl) ?_) | (refine g_c_len ?_; refine st_val rfl (r_lenSlice rfl) ?_) | (refine g_indexAddr ?_; (refine st_val rfl (r_indexAddr (S.rdRow (D := (fInt .i64)) (i := 0) rfl) rfl rfl ?_ ?_) ?_; (first | omega | (simp <;> omega)); (first | omega | (simp <;> omega)))) | (refine g_load ?_; (refine st_val rfl (r_loadElem1 (S.rdRow (D := (fInt .i64)) (i := 0) rfl) rfl ?_ ?_ rfl) ?_; (first | omega | (simp <;> omega)); (first | omega | (simp <;> omega)))) | (refine wl_split rfl rfl (fun h => ?_) (fun h => ?_) <;> (fail_if_success (have hh : true = true := h)) <;> (try simp only [decide_eq_true_eq, decide_eq_false_iff_not, Bool.not_eq_true', Bool.not_eq_false', Int.not_lt, Int.not_le] at h) <;> (try (exfalso; omega))) | (refine WP_cond rfl (fun h => ?_) (fun h => ?_) <;> (fail_if_success (have hh : true = true := h)) <;> (try simp only [decide_eq_true_eq, decide_eq_false_iff_not, Bool.not_eq_true', Bool.not_eq_false', Int.not_lt, Int.not_le] at h) <;> (try (exfalso; omega))))
      all_goals first
        | (refine ⟨⟨_, ?_, i + 1, ⟨rfl, rfl, rfl, rfl, rfl, rfl, rfl, rfl, trivial⟩, S, by omega, by omega, rfl⟩⟩; omega)
        | (exfalso; simp at h; omega)
        | trace_state
    · repeat' (first | refine WP_seq ?_ | refine WP_region ?_ | refine wl_nil ?_ | refine then_normal ?_ | refine inB_normal ?_ | refine WP_skip ?_ | refine WP_block ?_ | refine WP_condF rfl ?_ | (refine g_guard ?_; refine st_off rfl ?_) | (refine g_move ?_; refine st_move rfl ?_) | (refine g_assign ?_; refine st_assign rfl ?_) | (refine g_pick ?_; refine st_pickF rfl rfl ?_) | (refine g_b_add ?_; (refine st_val rfl (r_addN rfl rfl ?_ ?_) ?_; (first | omega | (simp <;> omega)); (first | omega | (simp <;> omega)))) | (refine g_b_neq ?_; refine st_val rfl (r_neqB rfl rfl) ?_) | (refine g_b_lss ?_; refine st_val rfl (r_lss rfl rfl) ?_) | (refine g_b_geq ?_; refine st_val rfl (r_geq rfl rfl) ?_) | (refine g_c_len ?_; refine st_val rfl (r_lenSlice rfl) ?_) | (refine g_indexAddr ?_; (refine st_val rfl (r_indexAddr (S.rdRow (D := (fInt .i64)) (i := 0) rfl) rfl rfl ?_ ?_) ?_; (first | omega | (simp <;> omega)); (first | omega | (simp <;> omega)))) | (refine g_load ?_; (refine st_val rfl (r_loadElem1 (S.rdRow (D := (fInt .i64)) (i := 0) rfl) rfl ?_ ?_ rfl) ?_; (first | omega | (simp <;> omega)); (first | omega | (simp <;> omega)))) | (refine wl_split rfl rfl (fun h => ?_) (fun h => ?_) <;> (fail_if_success (have hh : true = true := h)) <;> (try simp only [decide_eq_true_eq, decide_eq_false_iff_not, Bool.not_eq_true', Bool.not_eq_false', Int.not_lt, Int.not_le] at h) <;> (try (exfalso; omega))) | (refine WP_cond rfl (fun h => ?_) (fun h => ?_) <;> (fail_if_success (have hh : true = true := h)) <;> (try simp only [decide_eq_true_eq, decide_eq_false_iff_not, Bool.not_eq_true', Bool.not_eq_false', Int.not_lt, Int.not_le] at h) <;> (try (exfalso; omega))))
      all_goals first
        | (refine ⟨⟨_, ?_, i + 1, ⟨rfl, rfl, rfl, rfl, rfl, rfl, rfl, rfl, trivial⟩, S, by omega, by omega, rfl⟩⟩; omega)
        | (exfalso; simp at h; omega)
        | trace_state
  · repeat' (first | refine WP_seq ?_ | refine WP_region ?_ | refine wl_nil ?_ | refine then_normal ?_ | refine then_exit ?_ | refine inB_here ?_ | refine WP_ret ?_ | refine WP_exit ?_ | (refine g_move ?_; refine st_move rfl ?_) | (refine g_assign ?_; refine st_assign rfl ?_) | (refine g_pick ?_; refine st_pickT rfl rfl ?_) | (refine g_b_add ?_; (refine st_val rfl (r_addN rfl rfl ?_ ?_) ?_; (first | omega | (simp <;> omega)); (first | omega | (simp <;> omega)))) | (refine g_b_sub ?_; (refine st_val rfl (r_subN rfl rfl ?_ ?_) ?_; (first | omega | (simp <;> omega)); (first | omega | (simp <;> omega)))) | (refine g_b_eql ?_; refine st_val rfl (r_eql rfl rfl) ?_) | (refine g_b_lss ?_; refine st_val rfl (r_lss rfl rfl) ?_) | (refine g_b_leq ?_; refine st_val rfl (r_leq rfl rfl) ?_) | (refine g_b_geq ?_; refine st_val rfl (r_geq rfl rfl) ?_) | (refine g_extract ?_; refine st_val rfl (r_extract rfl rfl) ?_) | (refine g_c_len ?_; refine st_val rfl (r_lenSlice rfl) ?_) | (refine g_callV ?_; first | (refine st_callV rfl (r_call2 rfl rfl rfl) (spread_spec) ?_; intro w hb; replace S := S.grow hb; clear hb) | (refine st_callV rfl (r_call2 rfl rfl rfl) (pick_is he (by omega) (by omega) (by omega)) ?_; intro w hb; replace S := S.grow hb; clear hb)) | (refine wl_split rfl rfl (fun h => ?_) (fun h => ?_) <;> (fail_if_success (have hh : true = true := h)) <;> (try simp only [decide_eq_true_eq, decide_eq_false_iff_not, Bool.not_eq_true', Bool.not_eq_false', Int.not_lt, Int.not_le] at h) <;> (try (exfalso; omega))) | (refine WP_cond rfl (fun h => ?_) (fun h => ?_) <;> (fail_if_success (have hh : true = true := h)) <;> (try simp only [decide_eq_true_eq, decide_eq_false_iff_not, Bool.not_eq_true', Bool.not_eq_false', Int.not_lt, Int.not_le] at h) <;> (try (exfalso; omega))))
    all_goals first
      | (refine end1 rfl rfl ⟨rb ?_, S.below⟩; simp; omega)
      | trace_state
end Go.Proofs.Ytgphmhpcaeiglaa
