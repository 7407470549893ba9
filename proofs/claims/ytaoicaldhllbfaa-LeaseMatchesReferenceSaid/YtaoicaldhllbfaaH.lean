import Derived.Test.YtaoicaldhllbfaaG
namespace Go.Proofs.Ytaoicaldhllbfaa
open Go Go.Gx Go.RowKit
set_option linter.unusedVariables false
set_option linter.unusedSimpArgs false

theorem safeN_eq {n h o : Int} (hn : 1 ≤ n ∧ n ≤ 3600) (hh : 0 ≤ h ∧ h ≤ 100) (ho : 0 ≤ o ∧ o ≤ 100) : safeN n h o = leastS o n * (1000 - h) / 1000 := by
  unfold safeN
  rw [if_pos (by simp [inR, hn, hh, ho])]
theorem leastS_eq {n o : Int} (hn : 1 ≤ n ∧ n ≤ 3600) (ho : 0 ≤ o ∧ o ≤ 100) : leastS o n = 1000 * (n - 1) / (1000 + o) + 1 := by
  unfold leastS
  rw [if_neg (by omega), if_pos (by omega)]
theorem div_anti {X d d' : Int} (hX : 0 ≤ X) (hd : 0 < d) (h : d ≤ d') : X / d' ≤ X / d := by
  rw [Int.le_ediv_iff_mul_le hd]
  have h1 : 0 ≤ X / d' := Int.ediv_nonneg hX (by omega)
  have h2 : X / d' * d ≤ X / d' * d' := Int.mul_le_mul_of_nonneg_left h h1
  have h3 : X / d' * d' ≤ X := Int.ediv_mul_le X (by omega)
  omega
theorem safeN_id {n : Int} (hn : 1 ≤ n ∧ n ≤ 3600) : safeN n 0 0 = n := by
  rw [safeN_eq hn (by omega) (by omega), leastS_eq hn (by omega)]
  omega
theorem safeN_le {n h o : Int} (hn : 1 ≤ n ∧ n ≤ 3600) (hh : 0 ≤ h ∧ h ≤ 100) (ho : 0 ≤ o ∧ o ≤ 100) : safeN n h o ≤ n := by
  have fl := least_range ho.1 ho.2 hn.1 hn.2
  rw [safeN_eq hn hh ho]
  have : leastS o n * (1000 - h) ≤ leastS o n * 1000 := Int.mul_le_mul_of_nonneg_left (by omega) (by omega)
  omega
theorem safeN_mono {n n' h o : Int} (hn : 1 ≤ n) (hnn : n ≤ n') (hn' : n' ≤ 3600) (hh : 0 ≤ h ∧ h ≤ 100) (ho : 0 ≤ o ∧ o ≤ 100) : safeN n h o ≤ safeN n' h o := by
  rw [safeN_eq ⟨hn, by omega⟩ hh ho, safeN_eq ⟨by omega, hn'⟩ hh ho]
  refine Int.ediv_le_ediv (by omega) (Int.mul_le_mul_of_nonneg_right ?_ (by omega))
  rw [leastS_eq ⟨hn, by omega⟩ ho, leastS_eq ⟨by omega, hn'⟩ ho]
  have := Int.ediv_le_ediv (a := 1000 * (n - 1)) (b := 1000 * (n' - 1)) (c := 1000 + o) (by omega) (by omega)
  omega
theorem safeN_hub {n h h' o : Int} (hn : 1 ≤ n ∧ n ≤ 3600) (h0 : 0 ≤ h) (hh : h ≤ h') (h1 : h' ≤ 100) (ho : 0 ≤ o ∧ o ≤ 100) : safeN n h' o ≤ safeN n h o := by
  have fl := least_range ho.1 ho.2 hn.1 hn.2
  rw [safeN_eq hn ⟨by omega, h1⟩ ho, safeN_eq hn ⟨h0, by omega⟩ ho]
  exact Int.ediv_le_ediv (by omega) (Int.mul_le_mul_of_nonneg_left (by omega) (by omega))
theorem safeN_own {n h o o' : Int} (hn : 1 ≤ n ∧ n ≤ 3600) (hh : 0 ≤ h ∧ h ≤ 100) (h0 : 0 ≤ o) (hle : o ≤ o') (h1 : o' ≤ 100) : safeN n h o' ≤ safeN n h o := by
  rw [safeN_eq hn hh ⟨by omega, h1⟩, safeN_eq hn hh ⟨h0, by omega⟩]
  refine Int.ediv_le_ediv (by omega) (Int.mul_le_mul_of_nonneg_right ?_ (by omega))
  rw [leastS_eq hn ⟨by omega, h1⟩, leastS_eq hn ⟨h0, by omega⟩]
  have := div_anti (X := 1000 * (n - 1)) (d := 1000 + o) (d' := 1000 + o') (by omega) (by omega) (by omega)
  omega

theorem leaseSafe_spec {length longer hub own m0 m1 asked : Int} {w : World} (i1 : inI length) (i2 : inI longer) (i3 : inI hub) (i4 : inI own) (i5 : inI m0) (i6 : inI m1) (i7 : inI asked) :
    CallsV Try.prog 9 #[.int .i64 length, .int .i64 longer, .int .i64 hub, .int .i64 own, .agg #[.int .i64 m0, .int .i64 m1], .int .i64 asked] w (.bool true) := by
  have S := St.start w
  unfold inI at *
  obtain ⟨a, ha⟩ : ∃ x, pickI length 3600 = x := ⟨_, rfl⟩
  have ra := pickI_range (c := length) (n := 3600) (by omega)
  rw [ha] at ra
  obtain ⟨b', hb'⟩ : ∃ x, pickI longer (3601 - (1 + a)) = x := ⟨_, rfl⟩
  have rb' := pickI_range (c := longer) (n := 3601 - (1 + a)) (by omega)
  rw [hb'] at rb'
  obtain ⟨hu, hhu⟩ : ∃ x, pickI hub 101 = x := ⟨_, rfl⟩
  have rhu := pickI_range (c := hub) (n := 101) (by omega)
  rw [hhu] at rhu
  obtain ⟨ow, how⟩ : ∃ x, pickI own 101 = x := ⟨_, rfl⟩
  have row := pickI_range (c := own) (n := 101) (by omega)
  rw [how] at row
  obtain ⟨c0, hc0⟩ : ∃ x, pickI m0 (101 - hu) = x := ⟨_, rfl⟩
  have rc0 := pickI_range (c := m0) (n := 101 - hu) (by omega)
  rw [hc0] at rc0
  obtain ⟨c1, hc1⟩ : ∃ x, pickI m1 (101 - ow) = x := ⟨_, rfl⟩
  have rc1 := pickI_range (c := m1) (n := 101 - ow) (by omega)
  rw [hc1] at rc1
  obtain ⟨t, ht⟩ : ∃ x, pickI asked 10000001 = x := ⟨_, rfl⟩
  have rt := pickI_range (c := asked) (n := 10000001) (by omega)
  rw [ht] at rt
  have f1 := safeN_id (n := 1 + a) (by omega)
  have f2 := safeN_range (n := 1 + a) (h := hu) (o := ow)
  have f2' := safeN_le (n := 1 + a) (h := hu) (o := ow) (by omega) (by omega) (by omega)
  have f3 := safeN_mono (n := 1 + a) (n' := 1 + a + b') (h := hu) (o := ow) (by omega) (by omega) (by omega) (by omega) (by omega)
  have f4 := safeN_hub (n := 1 + a) (h := hu) (h' := hu + c0) (o := ow) (by omega) (by omega) (by omega) (by omega) (by omega)
  have f5 := safeN_own (n := 1 + a) (h := hu) (o := ow) (o' := ow + c1) (by omega) (by omega) (by omega) (by omega) (by omega)
  refine CallsV.mk ?_
  refine calls_enter Try.func9 rfl Try.ntmps9 rfl ?_
  repeat' (first | refine WP_seq ?_ | refine WP_region ?_ | refine wl_nil ?_ | refine then_normal ?_ | refine WP_ret ?_ | refine WP_skip ?_ | refine WP_condF rfl ?_ | (refine g_guard ?_; refine st_off rfl ?_) | (refine g_move ?_; refine st_move rfl ?_) | (refine g_assign ?_; refine st_assign rfl ?_) | (refine g_pick ?_; first | refine st_pickT rfl rfl ?_ | refine st_pickF rfl rfl ?_) | (refine g_b_add ?_; (refine st_val rfl (r_addN rfl rfl ?_ ?_) ?_; (first | omega | (simp <;> omega)); (first | omega | (simp <;> omega)))) | (refine g_b_sub ?_; (refine st_val rfl (r_subN rfl rfl ?_ ?_) ?_; (first | omega | (simp <;> omega)); (first | omega | (simp <;> omega)))) | (refine g_b_eql ?_; refine st_val rfl (r_eql rfl rfl) ?_) | (refine g_b_neq ?_; refine st_val rfl (r_neq rfl rfl) ?_) | (refine g_b_lss ?_; refine st_val rfl (r_lss rfl rfl) ?_) | (refine g_b_gtr ?_; refine st_val rfl (r_gtr rfl rfl) ?_) | (refine g_build ?_; refine st_val rfl (bd30_1_2_4 rfl rfl rfl) ?_) | (refine g_un ?_; refine st_val rfl (r_not rfl) ?_) | (refine g_fieldAddr ?_; refine st_val rfl (r_fieldAddrL rfl) ?_) | (refine g_indexAddr ?_; (refine st_val rfl (r_indexAddrArrL rfl rfl ?_ ?_) ?_; (first | omega | (simp <;> omega)); (first | omega | (simp <;> omega)))) | (refine g_load ?_; first | refine st_val rfl (r_loadVar (i := 0) S rfl rfl rfl) ?_ | refine st_val rfl (r_loadVar (i := 1) S rfl rfl rfl) ?_ | refine st_val rfl (r_loadVarA (i := 1) S rfl rfl rfl rfl) ?_) | (refine g_callV ?_; first | (refine st_callV rfl (r_call0 rfl) (sane_spec) ?_; intro w hb; replace S := S.grow hb; clear hb) | (refine st_callV rfl (r_call2 rfl rfl rfl) (pick_is (by assumption) (by omega) (by omega) (by omega)) ?_; intro w hb; replace S := S.grow hb; clear hb) | (refine st_callV rfl (r_call3 rfl rfl rfl rfl) (safe_spec) ?_; intro w hb; replace S := S.grow hb; clear hb) | (refine st_callV rfl (r_call4 rfl rfl rfl rfl rfl) (holds_spec (x := ⟨0, 1, t, 0, 1 + a, 0⟩) (by unfold inI; omega) (by unfold inI; simp; omega)) ?_; intro w hb; replace S := S.grow hb; clear hb)) | (refine g_box ?_; refine st_valE rfl (r_box S rfl) ?_; rintro _ w ⟨b, rfl, -, S'⟩; replace S := S'; clear S') | (refine g_alloc ?_; refine st_valE rfl (r_alloc S) ?_; rintro _ w ⟨b, rfl, -, S'⟩; replace S := S'; clear S') | (refine g_store ?_; first | (refine st_skipE rfl (r_storeVar (i := 0) S rfl rfl rfl rfl (of_decide_eq_true rfl) (of_decide_eq_true rfl)) ?_; intro w S'; replace S := S'; clear S') | (refine st_skipE rfl (r_storeVar (i := 1) S rfl rfl rfl rfl (of_decide_eq_true rfl) (of_decide_eq_true rfl)) ?_; intro w S'; replace S := S'; clear S') | (refine st_skipE rfl (r_storeVar (i := 2) S rfl rfl rfl rfl (of_decide_eq_true rfl) (of_decide_eq_true rfl)) ?_; intro w S'; replace S := S'; clear S')) | (refine wl_split rfl rfl (fun h => ?_) (fun h => ?_) <;> (fail_if_success (have hh : true = true := h)) <;> (try simp only [decide_eq_true_eq, decide_eq_false_iff_not, Bool.not_eq_true', Bool.not_eq_false', Int.not_lt, Int.not_le] at h) <;> (try (exfalso; omega)) <;> (try (exfalso; simp [holdsL] at h; omega; done))) | (refine WP_cond rfl (fun h => ?_) (fun h => ?_) <;> (fail_if_success (have hh : true = true := h)) <;> (try simp only [decide_eq_true_eq, decide_eq_false_iff_not, Bool.not_eq_true', Bool.not_eq_false', Int.not_lt, Int.not_le] at h) <;> (try (exfalso; omega)) <;> (try (exfalso; simp [holdsL] at h; omega; done))))
  all_goals (refine end1 rfl rfl ⟨rb ?_, S.below⟩)
  all_goals first | (simp [holdsL]; omega) | skip
end Go.Proofs.Ytaoicaldhllbfaa
