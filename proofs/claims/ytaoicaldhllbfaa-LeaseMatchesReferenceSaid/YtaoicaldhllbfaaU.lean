import Derived.Test.YtaoicaldhllbfaaT
namespace Go.Proofs.Ytaoicaldhllbfaa
open Go Go.Gx Go.RowKit
set_option linter.unusedVariables false
set_option linter.unusedSimpArgs false

abbrev fI64 : Flat Int := fInt .i64
theorem asked_in {l : List GRequest} (hok : ∀ x ∈ l, okR x) {i : Int} (h0 : 0 ≤ i) (h : i < l.length) : inI (nth (runL l).2 i).Asked := by
  have hx := hok _ (nth_mem h0 h)
  rw [runL_nth h0 h]
  unfold okR at hx
  unfold inI
  split
  · simp [zL]
  · simp only [grantL]; omega
theorem shown_in {s : Stry} {k t : Int} (h0 : 0 ≤ t) (h1 : t ≤ 1000000) : inI (s.shown k t) := by
  have := shown_range (s := s) (k := k) h0
  unfold inI; omega
theorem ans_bound (s : Stry) {i : Int} (h0 : 0 ≤ i) (h : i < s.n) : 60 ≤ nth (mkS s s.n).ans i ∧ nth (mkS s s.n).ans i ≤ 4000 := by
  rw [mkS_ans s h0 h]
  have a := mkS_t s (i + 1).toNat
  have b := pickI_range (c := (nth s.reqs i).a3) (n := 60) (by omega)
  have hn : s.n ≤ 14 := by unfold Stry.n; omega
  omega
theorem hub_range (s : Stry) {i : Int} (h0 : 0 ≤ i) (h : i < s.n) : 0 ≤ (nth (mkS s s.n).l i).Hub ∧ (nth (mkS s s.n).l i).Hub ≤ 2 := by
  rw [mkS_nth s h0 h]
  have f := pickI_range (c := (nth s.reqs i).a0) (n := 3) (by omega)
  simp only [mkReq]
  omega
set_option maxHeartbeats 1000000 in
theorem leaseOvers_spec {s : Stry} {which later : Int} {w0 : World} (hs : s.ok w0) (i0 : inI which) (i1 : inI later) : CallsV Try.prog 5 #[.agg s.enc.toArray, .int .i64 which, .int .i64 later] w0 (.bool true) := by
  have S := St.start w0
  refine CallsV.mk ?_
  refine calls_enter Try.func5 rfl Try.ntmps5 rfl ?_
  repeat' (first | refine WP_seq ?_ | refine WP_region ?_ | refine wl_nil ?_ | refine then_normal ?_ | refine WP_skip ?_ | refine WP_condF rfl ?_ | (refine g_move ?_; refine st_move rfl ?_) | (refine g_assign ?_; refine st_assign rfl ?_) | (refine g_un ?_; refine st_val rfl (r_not rfl) ?_) | (refine g_load ?_; refine st_val rfl (r_loadVarA (i := 0) S rfl rfl rfl rfl) ?_) | (refine g_callV ?_; (refine st_callV rfl (r_call0 rfl) (sane_spec) ?_; intro w hb; replace S := S.grow hb; clear hb)) | (refine g_box ?_; refine st_valE rfl (r_box S rfl) ?_; rintro _ w ⟨b, rfl, -, S'⟩; replace S := S'; clear S'))
  refine st_callR rfl (r_call1 rfl rfl) (made_spec (hs.mono S.below)) ?_
  rintro _ w hb ⟨v1, v2, v3, rfl, SJ⟩; replace S := S.join SJ; clear hb SJ
  obtain ⟨l, hl⟩ : ∃ l, l = (mkS s s.n).l := ⟨_, rfl⟩
  have hv := mkS_valid s
  have hok := mkS_ok s (m := s.n) (by unfold Stry.n; omega)
  have hlen : l.length ≤ 14 := by
    have := mkS_len s s.n
    rw [hl, this.1]; unfold Stry.n; omega
  rw [← hl] at S hv hok
  obtain ⟨A1, c1, rfl⟩ := (S.rdRow (D := fGRequest) (i := 1) rfl).len
  repeat' (first | refine WP_seq ?_ | refine WP_region ?_ | refine wl_nil ?_ | refine then_normal ?_ | (refine g_move ?_; refine st_move rfl ?_) | (refine g_assign ?_; refine st_assign rfl ?_) | (refine g_extract ?_; refine st_val rfl (r_extract rfl rfl) ?_))
  refine st_callR rfl (r_call1 rfl rfl) (grants_ok (S.rdRow (D := fGRequest) (i := 1) rfl) hv rfl) ?_
  rintro _ w hb ⟨v4, rfl, hn⟩; replace S := S.new hb hn; clear hb hn
  have hg := runL_len l
  have hlast := last_run hok
  obtain ⟨A4, c4, rfl⟩ := (S.rdRow (D := fGLease) (i := 4) rfl).len

  unfold inI at i0 i1
  have hln : l.length = s.n := by rw [hl]; exact (mkS_len s s.n).1
  by_cases hl0 : l.length = 0
  · repeat' (first | refine WP_seq ?_ | refine WP_region ?_ | refine wl_nil ?_ | refine then_normal ?_ | refine then_ret ?_ | refine WP_ret ?_ | (refine g_move ?_; refine st_move rfl ?_) | (refine g_assign ?_; refine st_assign rfl ?_) | (refine g_pick ?_; first | refine st_pickT rfl rfl ?_ | refine st_pickF rfl rfl ?_) | (refine g_b_eql ?_; refine st_val rfl (r_eql rfl rfl) ?_) | (refine g_b_neq ?_; refine st_val rfl (r_neq rfl rfl) ?_) | (refine g_extract ?_; refine st_val rfl (r_extract rfl rfl) ?_) | (refine g_c_len ?_; refine st_val rfl (r_lenSlice rfl) ?_) | (refine wl_split rfl rfl (fun h => ?_) (fun h => ?_) <;> (fail_if_success (have hh : true = true := h)) <;> (try simp only [decide_eq_true_eq, decide_eq_false_iff_not, Bool.not_eq_true', Bool.not_eq_false', Int.not_lt, Int.not_le] at h) <;> (try (exfalso; omega))) | (refine WP_cond rfl (fun h => ?_) (fun h => ?_) <;> (fail_if_success (have hh : true = true := h)) <;> (try simp only [decide_eq_true_eq, decide_eq_false_iff_not, Bool.not_eq_true', Bool.not_eq_false', Int.not_lt, Int.not_le] at h) <;> (try (exfalso; omega))))
    all_goals (refine end1 rfl rfl ⟨rb ?_, S.below⟩; simp [hg])
  · obtain ⟨i, hi⟩ : ∃ k, pickI which l.length = k := ⟨_, rfl⟩
    have ri := pickI_range (c := which) (n := l.length) (by omega)
    rw [hi] at ri
    obtain ⟨p, hp⟩ : ∃ k, pickI later 500 = k := ⟨_, rfl⟩
    have rp := pickI_range (c := later) (n := 500) (by omega)
    rw [hp] at rp
    have hans := ans_bound s (i := i) ri.1 (by omega)
    have hhub := hub_range s (i := i) ri.1 (by omega)
    have hal : (mkS s s.n).ans.length = s.n := (mkS_len s s.n).2.2
    have hask := asked_in hok (i := i) ri.1 (by omega)
    have hheld := fun T h1 h2 h3 => held_over (s := s) (i := i) (T := T) ri.1 (by omega) h1 h2 h3
    rw [← hl] at hheld hhub
    repeat' (first | refine WP_seq ?_ | refine WP_region ?_ | refine wl_nil ?_ | refine then_normal ?_ | refine then_ret ?_ | refine WP_ret ?_ | refine WP_skip ?_ | refine WP_condT rfl ?_ | refine WP_draw (by kernel_rfl) (by kernel_rfl) ?_ | (refine ql_nil ?_; intro w hb; replace S := S.grow hb; clear hb) | (refine g_move ?_; refine st_move rfl ?_) | (refine g_assign ?_; refine st_assign rfl ?_) | (refine g_pick ?_; refine st_pickF rfl rfl ?_) | (refine g_b_eql ?_; refine st_val rfl (r_eql rfl rfl) ?_) | (refine g_b_neq ?_; refine st_val rfl (r_neq rfl rfl) ?_) | (refine g_extract ?_; refine st_val rfl (r_extract rfl rfl) ?_) | (refine g_c_len ?_; refine st_val rfl (r_lenSlice rfl) ?_) | (refine g_fieldAddr ?_; refine st_val rfl (r_fieldAddr rfl) ?_) | (refine g_indexAddr ?_; (refine st_val rfl (r_indexAddr (S.rdRow (D := fGRequest) (i := 1) rfl) rfl rfl ?_ ?_) ?_; (first | omega | (simp <;> omega)); (first | omega | (simp <;> omega)))) | (refine g_load ?_; (refine st_val rfl (r_loadElem1 (S.rdRow (D := fGRequest) (i := 1) rfl) rfl ?_ ?_ rfl) ?_; (first | omega | (simp <;> omega)); (first | omega | (simp <;> omega)))) | (refine g_callV ?_; (refine st_callV rfl (r_call2 rfl rfl rfl) (pick_is hi (by omega) (by omega) (by omega)) ?_; intro w hb; replace S := S.grow hb; clear hb)) | (refine gq_guard ?_; refine q_off rfl ?_) | (refine gq_move ?_; refine q_move rfl ?_) | (refine gq_assign ?_; refine q_assign rfl ?_) | (refine gq_pick ?_; first | refine q_pickT rfl rfl ?_ | refine q_pickF rfl rfl ?_) | (refine gq_b_add ?_; (refine q_val rfl (fun w' hb => r_addN rfl rfl ?_ ?_) ?_; (first | omega | (simp <;> omega)); (first | omega | (simp <;> omega)))) | (refine gq_b_eql ?_; refine q_val rfl (fun w' hb => r_eql rfl rfl) ?_) | (refine gq_un ?_; refine q_val rfl (fun w' hb => r_not rfl) ?_) | (refine gq_fieldAddr ?_; refine q_val rfl (fun w' hb => r_fieldAddr rfl) ?_) | (refine gq_indexAddr ?_; first | (refine q_val rfl (fun w' hb => r_indexAddr ((S.grow hb).rdRow (D := fI64) (i := 3) rfl) rfl rfl ?_ ?_) ?_; (first | omega | (simp <;> omega)); (first | omega | (simp <;> omega))) | (refine q_val rfl (fun w' hb => r_indexAddr ((S.grow hb).rdRow (D := fGLease) (i := 4) rfl) rfl rfl ?_ ?_) ?_; (first | omega | (simp <;> omega)); (first | omega | (simp <;> omega)))) | (refine gq_load ?_; first | (refine q_val rfl (fun w' hb => r_loadElem1 ((S.grow hb).rdRow (D := fI64) (i := 3) rfl) rfl ?_ ?_ rfl) ?_; (first | omega | (simp <;> omega)); (first | omega | (simp <;> omega))) | (refine q_val rfl (fun w' hb => r_loadElem ((S.grow hb).rdRow (D := fGLease) (i := 4) rfl) rfl ?_ ?_) ?_; (first | omega | (simp <;> omega)); (first | omega | (simp <;> omega))) | (refine q_val rfl (fun w' hb => r_loadElemF ((S.grow hb).rdRow (D := fGLease) (i := 4) rfl) rfl ?_ ?_ rfl) ?_; (first | omega | (simp <;> omega)); (first | omega | (simp <;> omega))) | refine q_val rfl (fun w' hb => r_loadVarA (i := 0) (S.grow hb) rfl rfl rfl rfl) ?_) | (refine gq_callV ?_; first | refine q_callV rfl (fun w' hb => r_call2 rfl rfl rfl) (fun w' hb => pick_is hp (by omega) (by omega) (by omega)) ?_ | refine q_callV rfl (fun w' hb => r_call2 rfl rfl rfl) (fun w' hb => drift_spec (hs.mono (S.grow hb).below) (by omega) (by omega)) ?_ | refine q_callV rfl (fun w' hb => r_call3 rfl rfl rfl rfl) (fun w' hb => shownS_spec (hs.mono (S.grow hb).below) (by omega) (by omega) (by omega) (by omega)) ?_ | refine q_callV rfl (fun w' hb => r_call4 rfl rfl rfl rfl rfl) (fun w' hb => holds_spec (shown_in (by omega) (by omega)) hask) ?_ | refine q_callV rfl (fun w' hb => r_call2 rfl rfl rfl) (fun w' hb => over_spec) ?_) | (refine wl_split rfl rfl (fun h => ?_) (fun h => ?_) <;> (fail_if_success (have hh : true = true := h)) <;> (try simp only [decide_eq_true_eq, decide_eq_false_iff_not, Bool.not_eq_true', Bool.not_eq_false', Int.not_lt, Int.not_le] at h) <;> (try (exfalso; omega))) | (refine ql_split rfl rfl (fun h => ?_) (fun h => ?_) <;> (fail_if_success (have hh : true = true := h)) <;> (try simp only [decide_eq_true_eq, decide_eq_false_iff_not, Bool.not_eq_true', Bool.not_eq_false', Int.not_lt, Int.not_le] at h) <;> (try (exfalso; omega))) | (refine WP_cond rfl (fun h => ?_) (fun h => ?_) <;> (fail_if_success (have hh : true = true := h)) <;> (try simp only [decide_eq_true_eq, decide_eq_false_iff_not, Bool.not_eq_true', Bool.not_eq_false', Int.not_lt, Int.not_le] at h) <;> (try (exfalso; omega))))
    · exact end1 rfl rfl ⟨rfl, S.below⟩
    · exact end1 rfl rfl ⟨rfl, S.below⟩
    · refine end1 rfl rfl ⟨rb ?_, S.below⟩
      have := hheld _ (by omega) (by assumption) h
      simp [overL]
      omega
end Go.Proofs.Ytaoicaldhllbfaa
