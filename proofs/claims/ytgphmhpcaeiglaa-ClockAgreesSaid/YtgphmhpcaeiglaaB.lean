import Derived.Test.YtgphmhpcaeiglaaA
namespace Go.Proofs.Ytgphmhpcaeiglaa
open Go Go.Gx Go.RowKit
set_option linter.unusedVariables false
set_option linter.unusedSimpArgs false

/-- How much of the k-th hundred of seconds has gone by at second t. -/
def clI (t k : Int) : Int := max 0 (min (t - 100 * k) 100)
/-- What the first m hundreds add, the rates r. -/
def sumR (d : Int) (r : List Int) (t : Int) : Nat → Int
  | 0 => 0
  | m + 1 => sumR d r t m + (pickI (nth r m) (2 * d + 1) - d) * clI t m
theorem clI_sum (t : Int) (ht : 0 ≤ t) (m : Nat) : min t (100 * (m : Int)) + clI t m = min t (100 * ((m + 1 : Nat) : Int)) := by
  unfold clI; simp only [Int.max_def, Int.min_def]; (repeat' split) <;> omega
theorem clI_mono {t t' : Int} (h : t ≤ t') (k : Int) : clI t k ≤ clI t' k := by
  unfold clI; simp only [Int.max_def, Int.min_def]; (repeat' split) <;> omega
theorem clI_range (t k : Int) : 0 ≤ clI t k ∧ clI t k ≤ 100 := by
  unfold clI; simp only [Int.max_def, Int.min_def]; (repeat' split) <;> omega
theorem rate_range {d r : Int} (h0 : 0 ≤ d) (h1 : d ≤ 100) : -100 ≤ pickI r (2 * d + 1) - d ∧ pickI r (2 * d + 1) - d ≤ 100 := by
  have := pickI_range (c := r) (n := 2 * d + 1) (by omega); omega
theorem mul_bound {c x : Int} (h0 : -100 ≤ c) (h1 : c ≤ 100) (hx : 0 ≤ x) : -100 * x ≤ c * x ∧ c * x ≤ 100 * x :=
  ⟨Int.mul_le_mul_of_nonneg_right h0 hx, Int.mul_le_mul_of_nonneg_right h1 hx⟩
theorem sumR_diff {d : Int} (h0 : 0 ≤ d) (h1 : d ≤ 100) (r : List Int) {t t' : Int} (ht : 0 ≤ t) (h : t ≤ t') (m : Nat) :
    -100 * (min t' (100 * (m : Int)) - min t (100 * (m : Int))) ≤ sumR d r t' m - sumR d r t m ∧ sumR d r t' m - sumR d r t m ≤ 100 * (min t' (100 * (m : Int)) - min t (100 * (m : Int))) := by
  induction m with
  | zero => simp [sumR]; omega
  | succ m ih =>
    have a := clI_sum t ht m
    have b := clI_sum t' (by omega) m
    have c := clI_mono h m
    have e := rate_range (r := nth r m) h0 h1
    have f := mul_bound e.1 e.2 (x := clI t' m - clI t m) (by omega)
    rw [Int.mul_sub (pickI (nth r m) (2 * d + 1) - d)] at f
    simp only [sumR]
    generalize min t (100 * ((m + 1 : Nat) : Int)) = z1 at *
    generalize min t' (100 * ((m + 1 : Nat) : Int)) = z2 at *
    generalize min t (100 * (m : Int)) = z3 at *
    generalize min t' (100 * (m : Int)) = z4 at *
    omega
theorem sumR_zero (d : Int) (r : List Int) (m : Nat) : sumR d r 0 m = 0 := by
  induction m with
  | zero => rfl
  | succ m ih =>
    simp only [sumR, ih]
    have : clI 0 m = 0 := by unfold clI; simp only [Int.max_def, Int.min_def]; (repeat' split) <;> omega
    rw [this]; simp
theorem sumR_bound {d : Int} (h0 : 0 ≤ d) (h1 : d ≤ 100) (r : List Int) {t : Int} (ht : 0 ≤ t) (m : Nat) : -100 * t ≤ sumR d r t m ∧ sumR d r t m ≤ 100 * t := by
  have := sumR_diff h0 h1 r (t := 0) (t' := t) (by omega) ht m
  rw [sumR_zero] at this
  simp only [Int.min_def] at this
  (repeat' split at this) <;> omega
theorem sumR_stop (d : Int) (r : List Int) {t : Int} {i : Nat} (ht : t ≤ 100 * (i : Int)) : ∀ {m : Nat}, i ≤ m → sumR d r t m = sumR d r t i := by
  intro m hm
  induction m with
  | zero =>
    obtain rfl : i = 0 := by omega
    rfl
  | succ m ih =>
    by_cases e : i = m + 1
    · rw [e]
    · have : clI t m = 0 := by unfold clI; simp only [Int.max_def, Int.min_def]; (repeat' split) <;> omega
      simp only [sumR, this, Int.mul_zero, Int.add_zero]
      exact ih (by omega)
/-- What the clock shows at second t. -/
def shownI (dr st : Int) (r : List Int) (t : Int) : Int := pickI st 1000 + (sumR (pickI dr 101) r t (min r.length 20) + 1000 * t) / 1000
theorem shown_mono {dr st : Int} {r : List Int} {t t' : Int} (ht : 0 ≤ t) (h : t ≤ t') : shownI dr st r t ≤ shownI dr st r t' := by
  unfold shownI
  have e := pickI_range (c := dr) (n := 101) (by omega)
  have := sumR_diff (d := pickI dr 101) (by omega) (by omega) r ht h (min r.length 20)
  have : sumR (pickI dr 101) r t (min r.length 20) + 1000 * t ≤ sumR (pickI dr 101) r t' (min r.length 20) + 1000 * t' := by
    simp only [Int.min_def] at this
    (repeat' split at this) <;> omega
  have := Int.ediv_le_ediv (c := 1000) (by omega) this
  omega
theorem shown_bound {dr st : Int} {r : List Int} {t : Int} (ht : 0 ≤ t) : 0 ≤ shownI dr st r t ∧ shownI dr st r t ≤ 1000 + 2 * t := by
  unfold shownI
  have e := pickI_range (c := dr) (n := 101) (by omega)
  have f := pickI_range (c := st) (n := 1000) (by omega)
  have := sumR_bound (d := pickI dr 101) (by omega) (by omega) r ht (min r.length 20)
  omega
theorem sumR_next {d t : Int} {r : List Int} {i : Int} (h0 : 0 ≤ i) (ht : 100 * i < t) : sumR d r t (i + 1).toNat = sumR d r t i.toNat + (pickI (nth r i) (2 * d + 1) - d) * min (t - 100 * i) 100 := by
  rw [show (i + 1).toNat = i.toNat + 1 by omega]
  simp only [sumR, Int.toNat_of_nonneg h0]
  congr 2
  unfold clI; simp only [Int.max_def, Int.min_def]; (repeat' split) <;> omega
theorem shown_spec {dr st t : Int} {v : Value} {r : List Int} {w0 : World} (hr : Rd (fInt .i64).ty w0 v r) (hl : r.length ≤ maxLen) (hok : ∀ x ∈ r, inI x) (hd : inI dr) (hs : inI st) (h0 : 0 ≤ t) (h1 : t ≤ 1000000) :
    CallsV Try.prog 27 #[.int .i64 dr, .int .i64 st, v, .int .i64 t] w0 (.int .i64 (shownI dr st r t)) := by
  have S := St.start w0
  obtain ⟨A, c, rfl⟩ := hr.len
  unfold inI at hd hs
  simp only [maxLen] at hl
  refine CallsV.mk ?_
  obtain ⟨d, hpd⟩ : ∃ x, pickI dr 101 = x := ⟨_, rfl⟩
  have rd := pickI_range (c := dr) (n := 101) (by omega)
  rw [hpd] at rd
  obtain ⟨ps, hps⟩ : ∃ x, pickI st 1000 = x := ⟨_, rfl⟩
  have rps := pickI_range (c := st) (n := 1000) (by omega)
  rw [hps] at rps
  refine calls_enter Try.func27 rfl Try.ntmps27 rfl ?_
  repeat' (first | refine WP_seq ?_ | refine WP_region ?_ | refine wl_nil ?_ | refine then_normal ?_ | refine WP_block ?_ | (refine g_move ?_; refine st_move rfl ?_) | (refine g_assign ?_; refine st_assign rfl ?_) | (refine g_callV ?_; (refine st_callV rfl (r_call2 rfl rfl rfl) (pickC_is hpd (by omega) (by omega) (by omega)) ?_; intro w hb; replace S := S.grow hb; clear hb)))
  refine WP_loop (fun k σ w1 => ∃ i : Int, Has σ [(1, .int .i64 st), (2, .slice A r.length c), (3, .int .i64 t), (9, .int .i64 d), (10, .int .i64 (sumR d r t i.toNat)), (11, .int .i64 i)] ∧ St w0 w1 [] ∧ 0 ≤ i ∧ i ≤ r.length ∧ i ≤ 20 ∧ k = 20 - i.toNat) 20 ⟨0, ⟨rfl, rfl, rfl, rfl, rfl, rfl, trivial⟩, S, by omega, by omega, by omega, by omega⟩ ?_
  rintro k σ w1 ⟨i, hs', S, hi0, hi1, hi2, rfl⟩
  refine WP_has hs' ?_
  have bs := sumR_bound (d := d) (by omega) (by omega) r h0 i.toNat
  by_cases hc : i < r.length ∧ i < 20 ∧ 100 * i < t
  · obtain ⟨c1, c2, c3⟩ := hc
    have bx := hok _ (List.mem_of_getElem? (nth_get hi0 c1))
    unfold inI at bx
    have hn := sumR_next (d := d) (r := r) hi0 c3
    obtain ⟨p, hp⟩ : ∃ x, pickI (nth r i) (2 * d + 1) = x := ⟨_, rfl⟩
    have rp := pickI_range (c := nth r i) (n := 2 * d + 1) (by omega)
    rw [hp] at rp hn
    have bm := mul_bound (c := p - d) (x := min (t - 100 * i) 100) (by omega) (by omega) (by omega)
    have bq : min (t - 100 * i) 100 ≤ 100 := by omega
    repeat' (first | refine WP_seq ?_ | refine WP_region ?_ | refine wl_nil ?_ | refine then_normal ?_ | refine inB_normal ?_ | refine WP_skip ?_ | refine WP_block ?_ | (refine g_move ?_; refine st_move rfl ?_) | (refine g_assign ?_; refine st_assign rfl ?_) | (refine g_pick ?_; refine st_pickT rfl rfl ?_) | (refine g_b_add ?_; (refine st_val rfl (r_addN rfl rfl ?_ ?_) ?_; (first | omega | (simp <;> omega)); (first | omega | (simp <;> omega)))) | (refine g_b_sub ?_; (refine st_val rfl (r_subN rfl rfl ?_ ?_) ?_; (first | omega | (simp <;> omega)); (first | omega | (simp <;> omega)))) | (refine g_b_mul ?_; (refine st_val rfl (r_mulN rfl rfl ?_ ?_) ?_; (first | omega | (simp <;> omega)); (first | omega | (simp <;> omega)))) | (refine g_b_lss ?_; refine st_val rfl (r_lss rfl rfl) ?_) | (refine g_b_gtr ?_; refine st_val rfl (r_gtr rfl rfl) ?_) | (refine g_c_min ?_; refine st_val rfl (r_min2 rfl rfl) ?_) | (refine g_c_len ?_; refine st_val rfl (r_lenSlice rfl) ?_) | (refine g_indexAddr ?_; (refine st_val rfl (r_indexAddr (hr.mono S.below) rfl rfl ?_ ?_) ?_; (first | omega | (simp <;> omega)); (first | omega | (simp <;> omega)))) | (refine g_load ?_; (refine st_val rfl (r_loadElem1 (hr.mono S.below) rfl ?_ ?_ rfl) ?_; (first | omega | (simp <;> omega)); (first | omega | (simp <;> omega)))) | (refine g_callV ?_; (refine st_callV rfl (r_call2 rfl rfl rfl) (pickC_is hp (by omega) (by omega) (by omega)) ?_; intro w hb; replace S := S.grow hb; clear hb)) | (refine wl_split rfl rfl (fun h => ?_) (fun h => ?_) <;> (fail_if_success (have hh : true = true := h)) <;> (try simp only [decide_eq_true_eq, decide_eq_false_iff_not, Bool.not_eq_true', Bool.not_eq_false', Int.not_lt, Int.not_le] at h) <;> (try (exfalso; omega))) | (refine WP_cond rfl (fun h => ?_) (fun h => ?_) <;> (fail_if_success (have hh : true = true := h)) <;> (try simp only [decide_eq_true_eq, decide_eq_false_iff_not, Bool.not_eq_true', Bool.not_eq_false', Int.not_lt, Int.not_le] at h) <;> (try (exfalso; omega))))
    refine ⟨⟨_, ?_, i + 1, ⟨rfl, rfl, rfl, rfl, ?_, rfl, trivial⟩, S, by omega, by omega, by omega, rfl⟩⟩
    · omega
    · rw [hn]; rfl
  · have hstop : sumR d r t i.toNat = sumR d r t (min r.length 20) := by
      by_cases c3 : t ≤ 100 * i
      · exact (sumR_stop d r (by omega) (by omega)).symm
      · congr 1; omega
    have ev : shownI dr st r t = ps + (sumR d r t i.toNat + 1000 * t) / 1000 := by unfold shownI; rw [hpd, hps, ← hstop]
    repeat' (first | refine WP_seq ?_ | refine WP_region ?_ | refine wl_nil ?_ | refine then_normal ?_ | refine then_exit ?_ | refine inB_here ?_ | refine WP_ret ?_ | refine WP_exit ?_ | refine WP_condF rfl ?_ | (refine g_guard ?_; refine st_off rfl ?_) | (refine g_move ?_; refine st_move rfl ?_) | (refine g_assign ?_; refine st_assign rfl ?_) | (refine g_pick ?_; first | refine st_pickT rfl rfl ?_ | refine st_pickF rfl rfl ?_) | (refine g_b_add ?_; (refine st_val rfl (r_addN rfl rfl ?_ ?_) ?_; (first | omega | (simp <;> omega)); (first | omega | (simp <;> omega)))) | (refine g_b_mul ?_; (refine st_val rfl (r_mulN rfl rfl ?_ ?_) ?_; (first | omega | (simp <;> omega)); (first | omega | (simp <;> omega)))) | (refine g_b_quo ?_; (refine st_val rfl (r_quoN rfl rfl ?_ ?_ ?_) ?_; (first | omega | (simp <;> omega)); (first | omega | (simp <;> omega)); (first | omega | (simp <;> omega)))) | (refine g_b_lss ?_; refine st_val rfl (r_lss rfl rfl) ?_) | (refine g_b_gtr ?_; refine st_val rfl (r_gtr rfl rfl) ?_) | (refine g_c_len ?_; refine st_val rfl (r_lenSlice rfl) ?_) | (refine g_callV ?_; (refine st_callV rfl (r_call2 rfl rfl rfl) (pickC_is hps (by omega) (by omega) (by omega)) ?_; intro w hb; replace S := S.grow hb; clear hb)) | (refine wl_split rfl rfl (fun h => ?_) (fun h => ?_) <;> (fail_if_success (have hh : true = true := h)) <;> (try simp only [decide_eq_true_eq, decide_eq_false_iff_not, Bool.not_eq_true', Bool.not_eq_false', Int.not_lt, Int.not_le] at h) <;> (try (exfalso; omega))) | (refine WP_cond rfl (fun h => ?_) (fun h => ?_) <;> (fail_if_success (have hh : true = true := h)) <;> (try simp only [decide_eq_true_eq, decide_eq_false_iff_not, Bool.not_eq_true', Bool.not_eq_false', Int.not_lt, Int.not_le] at h) <;> (try (exfalso; omega))))
    all_goals (exact end1 rfl rfl ⟨ri ev.symm, S.below⟩)
end Go.Proofs.Ytgphmhpcaeiglaa
