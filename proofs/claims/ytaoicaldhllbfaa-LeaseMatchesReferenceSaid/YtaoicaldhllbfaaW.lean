import Derived.Test.YtaoicaldhllbfaaV
namespace Go.Proofs.Ytaoicaldhllbfaa
open Go Go.Gx Go.RowKit
set_option linter.unusedVariables false
set_option linter.unusedSimpArgs false

set_option maxHeartbeats 1000000 in
theorem leaseExcludes_spec {s : Stry} {t0 : Int} {w0 : World} (hs : s.ok w0) (i0 : inI t0) : CallsV Try.prog 4 #[.agg s.enc.toArray, .int .i64 t0] w0 (.bool true) := by
  have S := St.start w0
  refine CallsV.mk ?_
  refine calls_enter Try.func4 rfl Try.ntmps4 rfl ?_
  repeat' (first | refine WP_seq ?_ | refine WP_region ?_ | refine wl_nil ?_ | refine then_normal ?_ | refine WP_skip ?_ | refine WP_condF rfl ?_ | (refine g_move ?_; refine st_move rfl ?_) | (refine g_assign ?_; refine st_assign rfl ?_) | (refine g_un ?_; refine st_val rfl (r_not rfl) ?_) | (refine g_load ?_; refine st_val rfl (r_loadVarA (i := 0) S rfl rfl rfl rfl) ?_) | (refine g_callV ?_; (refine st_callV rfl (r_call0 rfl) (sane_spec) ?_; intro w hb; replace S := S.grow hb; clear hb)) | (refine g_box ?_; refine st_valE rfl (r_box S rfl) ?_; rintro _ w ⟨b, rfl, -, S'⟩; replace S := S'; clear S'))
  refine st_callR rfl (r_call1 rfl rfl) (made_spec (hs.mono S.below)) ?_
  rintro _ w hb ⟨v1, v2, v3, rfl, SJ⟩; replace S := S.join SJ; clear hb SJ
  obtain ⟨l, hl⟩ : ∃ l, l = (mkS s s.n).l := ⟨_, rfl⟩
  have hv := mkS_valid s
  have hok := mkS_ok s (m := s.n) (by unfold Stry.n; omega)
  have hlen : l.length ≤ 14 := by
    have := mkS_len s s.n
    rw [hl, this.1]; unfold Stry.n; omega
  rw [← hl] at S hv hok
  obtain ⟨A1, c1, rfl⟩ := (S.rdRow (D := fGRequest) (i := 1) rfl).len
  repeat' (first | refine WP_seq ?_ | refine WP_region ?_ | refine wl_nil ?_ | refine then_normal ?_ | (refine g_move ?_; refine st_move rfl ?_) | (refine g_assign ?_; refine st_assign rfl ?_) | (refine g_extract ?_; refine st_val rfl (r_extract rfl rfl) ?_))
  refine st_callR rfl (r_call1 rfl rfl) (grants_ok (S.rdRow (D := fGRequest) (i := 1) rfl) hv rfl) ?_
  rintro _ w hb ⟨v4, rfl, hn⟩; replace S := S.new hb hn; clear hb hn
  have hg := runL_len l
  have hlast := last_run hok
  obtain ⟨A4, c4, rfl⟩ := (S.rdRow (D := fGLease) (i := 4) rfl).len

  unfold inI at i0
  have hln : l.length = s.n := by rw [hl]; exact (mkS_len s s.n).1
  have hal : (mkS s s.n).ans.length = s.n := (mkS_len s s.n).2.2
  obtain ⟨p, hp⟩ : ∃ k, pickI t0 5000 = k := ⟨_, rfl⟩
  have rp := pickI_range (c := t0) (n := 5000) (by omega)
  rw [hp] at rp
  obtain ⟨bS, rfl⟩ : ∃ x, x = b := ⟨_, rfl⟩
  have hexc := fun (j i T : Int) h1 h2 h3 h4 h5 => excludes (s := s) (j := j) (i := i) (T := T) h1 h2 h3 h4 h5
  have hab := fun (i : Int) h1 h2 => ans_bound s (i := i) h1 h2
  have hhb := fun (i : Int) h1 h2 => hub_range s (i := i) h1 h2
  unfold heldAt at hexc
  rw [← hl] at hexc hhb
  obtain ⟨A3, c3, hv3⟩ := (S.rdRow (D := fI64) (i := 3) rfl).len
  subst hv3
  generalize hans : (mkS s s.n).ans = ans at *
  repeat' (first | refine WP_seq ?_ | refine WP_region ?_ | refine wl_nil ?_ | refine then_normal ?_ | refine WP_skip ?_ | (refine g_move ?_; refine st_move rfl ?_) | (refine g_assign ?_; refine st_assign rfl ?_) | (refine g_pick ?_; refine st_pickF rfl rfl ?_) | (refine g_b_neq ?_; refine st_val rfl (r_neq rfl rfl) ?_) | (refine g_extract ?_; refine st_val rfl (r_extract rfl rfl) ?_) | (refine g_c_len ?_; refine st_val rfl (r_lenSlice rfl) ?_) | (refine g_callV ?_; (refine st_callV rfl (r_call2 rfl rfl rfl) (pick_is hp (by omega) (by omega) (by omega)) ?_; intro w hb; replace S := S.grow hb; clear hb)) | (refine WP_cond rfl (fun h => ?_) (fun h => ?_) <;> (fail_if_success (have hh : true = true := h)) <;> (try simp only [decide_eq_true_eq, decide_eq_false_iff_not, Bool.not_eq_true', Bool.not_eq_false', Int.not_lt, Int.not_le] at h) <;> (try (exfalso; omega))))
  refine st_valE rfl (r_litF (D := fI64) [p] (Value.int .i64) S rfl rfl (fun _ => rfl) rfl (by decide) (by decide)) ?_
  rintro _ w ⟨bl, rfl, -, -, S'⟩; replace S := S'; clear S'
  repeat' (first | refine WP_seq ?_ | refine WP_region ?_ | refine wl_nil ?_ | refine then_normal ?_ | refine WP_block ?_ | (refine g_assign ?_; refine st_assign rfl ?_))
  replace S := S.keep [true, true, false, true, true, true]
  refine WP_loop (fun k σ w1 => ∃ (i : Int) (vt : Value), Has σ [(2, .pointer (some ⟨bS, 0, none⟩)), (5, .bool true), (6, .slice A1 l.length c1), (8, .slice A3 ans.length c3), (9, .slice A4 (runL l).2.length c4), (11, vt), (12, .int .i64 i)] ∧ St w0 w1 [.var bS 28 s.enc, rowOb fGRequest 50 (.slice A1 l.length c1) l, rowOb fI64 3 (.slice A3 ans.length c3) ans, rowOb fGLease 30 (.slice A4 (runL l).2.length c4) (runL l).2, rowOb fI64 3 vt (p :: ans.take i.toNat)] ∧ 0 ≤ i ∧ i ≤ ans.length ∧ k = ans.length - i.toNat) ans.length ⟨0, _, ⟨rfl, rfl, rfl, rfl, rfl, rfl, rfl, trivial⟩, S, by omega, by omega, by omega⟩ ?_
  rintro k σ w1 ⟨i, vt, hs', S, hi0, hi1, rfl⟩
  refine WP_has hs' ?_
  by_cases hi : i < ans.length
  · repeat' (first | refine WP_seq ?_ | refine WP_region ?_ | refine wl_nil ?_ | refine then_normal ?_ | refine WP_skip ?_ | refine WP_block ?_ | (refine g_move ?_; refine st_move rfl ?_) | (refine g_b_lss ?_; refine st_val rfl (r_lss rfl rfl) ?_) | (refine g_c_len ?_; refine st_val rfl (r_lenSlice rfl) ?_) | (refine g_indexAddr ?_; (refine st_val rfl (r_indexAddr (S.rdRow (D := fI64) (i := 2) rfl) rfl rfl ?_ ?_) ?_; (first | omega | (simp <;> omega)); (first | omega | (simp <;> omega)))) | (refine g_load ?_; (refine st_val rfl (r_loadElem1 (S.rdRow (D := fI64) (i := 2) rfl) rfl ?_ ?_ rfl) ?_; (first | omega | (simp <;> omega)); (first | omega | (simp <;> omega)))) | (refine WP_cond rfl (fun h => ?_) (fun h => ?_) <;> (fail_if_success (have hh : true = true := h)) <;> (try simp only [decide_eq_true_eq, decide_eq_false_iff_not, Bool.not_eq_true', Bool.not_eq_false', Int.not_lt, Int.not_le] at h) <;> (try (exfalso; omega))))
    refine st_valE rfl (r_litF (D := fI64) [nth ans i] (Value.int .i64) S rfl rfl (fun _ => rfl) rfl (by decide) (by decide)) ?_
    rintro _ w ⟨bl2, rfl, -, hcl, S'⟩; replace S := S'; clear S'
    refine st_valE rfl (r_append1 (D := fI64) (i := 4) (b := bl2) (x := nth ans i) S rfl rfl rfl (fl_one hcl) rfl (by decide) (of_decide_eq_true rfl) (by simp; omega) (by simp; omega)) ?_
    rintro vt' w ⟨-, S'⟩; replace S := S'; clear S' hcl
    repeat' (first | refine WP_region ?_ | refine wl_nil ?_ | refine then_normal ?_ | refine inB_normal ?_ | (refine g_move ?_; refine st_move rfl ?_) | (refine g_assign ?_; refine st_assign rfl ?_) | (refine g_b_add ?_; (refine st_val rfl (r_addN rfl rfl ?_ ?_) ?_; (first | omega | (simp <;> omega)); (first | omega | (simp <;> omega)))))
    refine ⟨⟨_, ?_, i + 1, vt', ⟨rfl, rfl, rfl, rfl, rfl, rfl, rfl, trivial⟩, ?_, by omega, by omega, rfl⟩⟩
    · omega
    · rw [take_snoc hi0 hi]; exact S.keep [true, true, true, true, true]
  · rw [show ans.take i.toNat = ans from List.take_of_length_le (by omega)] at S
    obtain ⟨At, ct, hvt⟩ := (S.rdRow (D := fI64) (i := 4) rfl).len
    subst hvt
    repeat' (first | refine WP_seq ?_ | refine WP_region ?_ | refine wl_nil ?_ | refine then_normal ?_ | refine then_exit ?_ | refine inB_here ?_ | refine WP_exit ?_ | refine WP_block ?_ | (refine g_move ?_; refine st_move rfl ?_) | (refine g_assign ?_; refine st_assign rfl ?_) | (refine g_b_lss ?_; refine st_val rfl (r_lss rfl rfl) ?_) | (refine g_c_len ?_; refine st_val rfl (r_lenSlice rfl) ?_) | (refine WP_cond rfl (fun h => ?_) (fun h => ?_) <;> (fail_if_success (have hh : true = true := h)) <;> (try simp only [decide_eq_true_eq, decide_eq_false_iff_not, Bool.not_eq_true', Bool.not_eq_false', Int.not_lt, Int.not_le] at h) <;> (try (exfalso; omega))))
    have hte : ∀ T ∈ p :: ans, 0 ≤ T ∧ T ≤ 5000 := by
      intro T hT
      rcases List.mem_cons.1 hT with rfl | hT
      · omega
      · obtain ⟨j, j0, j1, rfl⟩ := mem_nth hT
        have := hab j j0 (by omega)
        omega
    obtain ⟨tms, htms⟩ : ∃ tms, tms = p :: ans := ⟨_, rfl⟩
    rw [← htms] at hte S
    have htl : tms.length = ans.length + 1 := by rw [htms]; rfl
    refine WP_loop (fun q σ w1 => ∃ k : Int, Has σ [(2, .pointer (some ⟨bS, 0, none⟩)), (5, .bool true), (6, .slice A1 l.length c1), (8, .slice A3 ans.length c3), (9, .slice A4 (runL l).2.length c4), (11, .slice At tms.length ct), (13, .int .i64 k)] ∧ St w0 w1 [.var bS 28 s.enc, rowOb fGRequest 50 (.slice A1 l.length c1) l, rowOb fI64 3 (.slice A3 ans.length c3) ans, rowOb fGLease 30 (.slice A4 (runL l).2.length c4) (runL l).2, rowOb fI64 3 (.slice At tms.length ct) tms] ∧ 0 ≤ k ∧ k ≤ tms.length ∧ q = tms.length - k.toNat) tms.length ⟨0, ⟨rfl, rfl, rfl, rfl, rfl, ?_, rfl, trivial⟩, S, by omega, by omega, by omega⟩ ?_
    · rw [htms]; rfl
    clear hs' S
    rintro q σ w1 ⟨k, hs', S, hk0, hk1, rfl⟩
    refine WP_has hs' ?_
    by_cases hk : k < tms.length
    · have hT := hte _ (nth_mem hk0 hk)
      repeat' (first | refine WP_seq ?_ | refine WP_region ?_ | refine wl_nil ?_ | refine then_normal ?_ | refine WP_skip ?_ | refine WP_block ?_ | (refine g_move ?_; refine st_move rfl ?_) | (refine g_assign ?_; refine st_assign rfl ?_) | (refine g_b_lss ?_; refine st_val rfl (r_lss rfl rfl) ?_) | (refine g_c_len ?_; refine st_val rfl (r_lenSlice rfl) ?_) | (refine WP_cond rfl (fun h => ?_) (fun h => ?_) <;> (fail_if_success (have hh : true = true := h)) <;> (try simp only [decide_eq_true_eq, decide_eq_false_iff_not, Bool.not_eq_true', Bool.not_eq_false', Int.not_lt, Int.not_le] at h) <;> (try (exfalso; omega))))
      refine WP_loop (fun q σ w1 => ∃ i who : Int, Has σ [(2, .pointer (some ⟨bS, 0, none⟩)), (5, .bool true), (6, .slice A1 l.length c1), (8, .slice A3 ans.length c3), (9, .slice A4 (runL l).2.length c4), (11, .slice At tms.length ct), (13, .int .i64 k), (14, .int .i64 who), (15, .int .i64 i)] ∧ St w0 w1 [.var bS 28 s.enc, rowOb fGRequest 50 (.slice A1 l.length c1) l, rowOb fI64 3 (.slice A3 ans.length c3) ans, rowOb fGLease 30 (.slice A4 (runL l).2.length c4) (runL l).2, rowOb fI64 3 (.slice At tms.length ct) tms] ∧ 0 ≤ i ∧ i ≤ l.length ∧ (who = -1 ∨ ∃ j : Int, 0 ≤ j ∧ j < i ∧ ((nth (runL l).2 j).Epoch ≠ 0 ∧ nth ans j ≤ nth tms k ∧ holdsL (nth (runL l).2 j) (pickI (s.d (nth l j).Hub) 101) (pickI (s.d 3) 101) (s.shown (nth l j).Hub (nth tms k)) = true) ∧ who = (nth l j).Hub) ∧ q = l.length - i.toNat) l.length ⟨0, -1, ⟨rfl, rfl, rfl, rfl, rfl, rfl, rfl, rfl, rfl, trivial⟩, S, by omega, by omega, .inl rfl, by omega⟩ ?_
      clear hs' S
      rintro q σ w1 ⟨i, who, hs', S, hi0, hi1, hwho, rfl⟩
      refine WP_has hs' ?_
      by_cases hi : i < l.length
      · have hhub := hhb i hi0 (by omega)
        have hask := asked_in hok hi0 hi
        repeat' (first | refine WP_seq ?_ | refine WP_region ?_ | refine wl_nil ?_ | refine then_normal ?_ | refine inB_normal ?_ | refine then_exit ?_ | refine inB_here ?_ | refine then_ret ?_ | refine inB_ret ?_ | refine WP_ret ?_ | refine WP_skip ?_ | refine WP_exit ?_ | refine WP_block ?_ | refine WP_condT rfl ?_ | refine WP_condF rfl ?_ | refine WP_draw (by kernel_rfl) (by kernel_rfl) ?_ | (refine ql_nil ?_; intro w hb; replace S := S.grow hb; clear hb) | (refine g_guard ?_; refine st_off rfl ?_) | (refine g_move ?_; refine st_move rfl ?_) | (refine g_assign ?_; refine st_assign rfl ?_) | (refine g_pick ?_; first | refine st_pickT rfl rfl ?_ | refine st_pickF rfl rfl ?_) | (refine g_b_add ?_; (refine st_val rfl (r_addN rfl rfl ?_ ?_) ?_; (first | omega | (simp <;> omega)); (first | omega | (simp <;> omega)))) | (refine g_b_neq ?_; refine st_val rfl (r_neq rfl rfl) ?_) | (refine g_b_lss ?_; refine st_val rfl (r_lss rfl rfl) ?_) | (refine g_b_geq ?_; refine st_val rfl (r_geq rfl rfl) ?_) | (refine g_c_len ?_; refine st_val rfl (r_lenSlice rfl) ?_) | (refine g_fieldAddr ?_; refine st_val rfl (r_fieldAddr rfl) ?_) | (refine g_indexAddr ?_; (refine st_val rfl (r_indexAddr (S.rdRow (D := fGRequest) (i := 1) rfl) rfl rfl ?_ ?_) ?_; (first | omega | (simp <;> omega)); (first | omega | (simp <;> omega)))) | (refine g_load ?_; (refine st_val rfl (r_loadElem1 (S.rdRow (D := fGRequest) (i := 1) rfl) rfl ?_ ?_ rfl) ?_; (first | omega | (simp <;> omega)); (first | omega | (simp <;> omega)))) | (refine gq_guard ?_; refine q_off rfl ?_) | (refine gq_move ?_; refine q_move rfl ?_) | (refine gq_pick ?_; first | refine q_pickT rfl rfl ?_ | refine q_pickF rfl rfl ?_) | (refine gq_b_eql ?_; refine q_val rfl (fun w' hb => r_eql rfl rfl) ?_) | (refine gq_b_gtr ?_; refine q_val rfl (fun w' hb => r_gtr rfl rfl) ?_) | (refine gq_un ?_; refine q_val rfl (fun w' hb => r_not rfl) ?_) | (refine gq_fieldAddr ?_; refine q_val rfl (fun w' hb => r_fieldAddr rfl) ?_) | (refine gq_indexAddr ?_; first | (refine q_val rfl (fun w' hb => r_indexAddr ((S.grow hb).rdRow (D := fI64) (i := 2) rfl) rfl rfl ?_ ?_) ?_; (first | omega | (simp <;> omega)); (first | omega | (simp <;> omega))) | (refine q_val rfl (fun w' hb => r_indexAddr ((S.grow hb).rdRow (D := fGLease) (i := 3) rfl) rfl rfl ?_ ?_) ?_; (first | omega | (simp <;> omega)); (first | omega | (simp <;> omega))) | (refine q_val rfl (fun w' hb => r_indexAddr ((S.grow hb).rdRow (D := fI64) (i := 4) rfl) rfl rfl ?_ ?_) ?_; (first | omega | (simp <;> omega)); (first | omega | (simp <;> omega)))) | (refine gq_load ?_; first | (refine q_val rfl (fun w' hb => r_loadElem1 ((S.grow hb).rdRow (D := fI64) (i := 2) rfl) rfl ?_ ?_ rfl) ?_; (first | omega | (simp <;> omega)); (first | omega | (simp <;> omega))) | (refine q_val rfl (fun w' hb => r_loadElem ((S.grow hb).rdRow (D := fGLease) (i := 3) rfl) rfl ?_ ?_) ?_; (first | omega | (simp <;> omega)); (first | omega | (simp <;> omega))) | (refine q_val rfl (fun w' hb => r_loadElemF ((S.grow hb).rdRow (D := fGLease) (i := 3) rfl) rfl ?_ ?_ rfl) ?_; (first | omega | (simp <;> omega)); (first | omega | (simp <;> omega))) | (refine q_val rfl (fun w' hb => r_loadElem1 ((S.grow hb).rdRow (D := fI64) (i := 4) rfl) rfl ?_ ?_ rfl) ?_; (first | omega | (simp <;> omega)); (first | omega | (simp <;> omega))) | refine q_val rfl (fun w' hb => r_loadVarA (i := 0) (S.grow hb) rfl rfl rfl rfl) ?_) | (refine gq_callV ?_; first | refine q_callV rfl (fun w' hb => r_call2 rfl rfl rfl) (fun w' hb => drift_spec (hs.mono (S.grow hb).below) (by omega) (by omega)) ?_ | refine q_callV rfl (fun w' hb => r_call3 rfl rfl rfl rfl) (fun w' hb => shownS_spec (hs.mono (S.grow hb).below) (by omega) (by omega) (by omega) (by omega)) ?_ | refine q_callV rfl (fun w' hb => r_call4 rfl rfl rfl rfl rfl) (fun w' hb => holds_spec (shown_in (by omega) (by omega)) hask) ?_) | (refine wl_split rfl rfl (fun h => ?_) (fun h => ?_) <;> (fail_if_success (have hh : true = true := h)) <;> (try simp only [decide_eq_true_eq, decide_eq_false_iff_not, Bool.not_eq_true', Bool.not_eq_false', Int.not_lt, Int.not_le] at h) <;> (try (exfalso; omega))) | (refine ql_split rfl rfl (fun h => ?_) (fun h => ?_) <;> (fail_if_success (have hh : true = true := h)) <;> (try simp only [decide_eq_true_eq, decide_eq_false_iff_not, Bool.not_eq_true', Bool.not_eq_false', Int.not_lt, Int.not_le] at h) <;> (try (exfalso; omega))) | (refine WP_cond rfl (fun h => ?_) (fun h => ?_) <;> (fail_if_success (have hh : true = true := h)) <;> (try simp only [decide_eq_true_eq, decide_eq_false_iff_not, Bool.not_eq_true', Bool.not_eq_false', Int.not_lt, Int.not_le] at h) <;> (try (exfalso; omega))))
        all_goals first
          | (refine ⟨⟨_, ?_, i + 1, who, ⟨rfl, rfl, rfl, rfl, rfl, rfl, rfl, rfl, rfl, trivial⟩, S, by omega, by omega, hwho.imp id (fun ⟨j, ja, jb, jc⟩ => ⟨j, ja, by omega, jc⟩), rfl⟩⟩; omega)
          | (refine ⟨⟨_, ?_, i + 1, (nth l i).Hub, ⟨rfl, rfl, rfl, rfl, rfl, rfl, rfl, rfl, rfl, trivial⟩, S, by omega, by omega, .inr ⟨i, hi0, by omega, ⟨by assumption, by omega, by assumption⟩, rfl⟩, rfl⟩⟩; omega)
          | (exfalso; rcases hwho with h1 | ⟨j, ja, jb, jc, jd⟩
             · omega
             · have := hexc j i (nth tms k) ja jb (by omega) jc ⟨by assumption, by omega, by assumption⟩
               omega)
      · repeat' (first | refine WP_seq ?_ | refine WP_region ?_ | refine wl_nil ?_ | refine then_normal ?_ | refine inB_normal ?_ | refine then_exit ?_ | refine inB_here ?_ | refine WP_exit ?_ | (refine g_move ?_; refine st_move rfl ?_) | (refine g_assign ?_; refine st_assign rfl ?_) | (refine g_b_add ?_; (refine st_val rfl (r_addN rfl rfl ?_ ?_) ?_; (first | omega | (simp <;> omega)); (first | omega | (simp <;> omega)))) | (refine g_b_lss ?_; refine st_val rfl (r_lss rfl rfl) ?_) | (refine g_c_len ?_; refine st_val rfl (r_lenSlice rfl) ?_) | (refine WP_cond rfl (fun h => ?_) (fun h => ?_) <;> (fail_if_success (have hh : true = true := h)) <;> (try simp only [decide_eq_true_eq, decide_eq_false_iff_not, Bool.not_eq_true', Bool.not_eq_false', Int.not_lt, Int.not_le] at h) <;> (try (exfalso; omega))))
        refine ⟨⟨_, ?_, k + 1, ⟨rfl, rfl, rfl, rfl, rfl, rfl, rfl, trivial⟩, S, by omega, by omega, rfl⟩⟩
        omega
    · repeat' (first | refine WP_seq ?_ | refine WP_region ?_ | refine wl_nil ?_ | refine then_normal ?_ | refine then_exit ?_ | refine inB_here ?_ | refine WP_ret ?_ | refine WP_exit ?_ | (refine g_move ?_; refine st_move rfl ?_) | (refine g_assign ?_; refine st_assign rfl ?_) | (refine g_b_lss ?_; refine st_val rfl (r_lss rfl rfl) ?_) | (refine g_c_len ?_; refine st_val rfl (r_lenSlice rfl) ?_) | (refine WP_cond rfl (fun h => ?_) (fun h => ?_) <;> (fail_if_success (have hh : true = true := h)) <;> (try simp only [decide_eq_true_eq, decide_eq_false_iff_not, Bool.not_eq_true', Bool.not_eq_false', Int.not_lt, Int.not_le] at h) <;> (try (exfalso; omega))))
      exact end1 rfl rfl ⟨rfl, S.below⟩
end Go.Proofs.Ytaoicaldhllbfaa
