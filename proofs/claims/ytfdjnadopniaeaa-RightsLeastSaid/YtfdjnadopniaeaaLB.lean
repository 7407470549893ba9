import Derived.Test.YtfdjnadopniaeaaLA
namespace Go.Proofs.Ytfdjnadopniaeaa
open Go Go.Gx Go.RowKit
open Kuhn
set_option linter.unusedVariables false
set_option linter.unusedSimpArgs false

set_option maxRecDepth 20000 in
set_option maxHeartbeats 16000000 in
theorem rightsWithdrawn_spec {vx vy : Value} {xs : List GArr5Int} {ys : List GArr4Int} {item at_ more : Int} {w0 : World} (hrx : Rd fGArr5Int.ty w0 vx xs) (hx : ∀ x ∈ xs, okA5 x) (hxl : xs.length ≤ maxLen) (hry : Rd fGArr4Int.ty w0 vy ys) (hy : ∀ x ∈ ys, okA4 x) (hyl : ys.length ≤ maxLen)
    (i2 : inI item) (i3 : inI at_) (i4 : inI more) :
    CallsV Try.prog 7 #[vx, vy, .int .i64 item, .int .i64 at_, .int .i64 more] w0 (.bool true) := by
  have S := St.start w0
  unfold inI at i2 i3 i4
  obtain ⟨n, hn⟩ : ∃ z, pickI item 3 = z := ⟨_, rfl⟩
  obtain ⟨t, ht⟩ : ∃ z, pickI at_ 1000 = z := ⟨_, rfl⟩
  obtain ⟨s, hs⟩ : ∃ z, pickI more 1000 = z := ⟨_, rfl⟩
  have rn := pickI_range (c := item) (n := 3) (by omega)
  have rt := pickI_range (c := at_) (n := 1000) (by omega)
  have rs := pickI_range (c := more) (n := 1000) (by omega)
  rw [hn] at rn
  rw [ht] at rt
  rw [hs] at rs
  have bn : inR n 0 199 = true := by simp [inR]; omega
  have bt : inR t 0 10000000 = true := by simp [inR]; omega
  have bs : inR s 0 10000000 = true := by simp [inR]; omega
  obtain ⟨l, hl⟩ : ∃ l, madeG xs = l := ⟨_, rfl⟩
  obtain ⟨us, hu⟩ : ∃ us, madeU ys = us := ⟨_, rfl⟩
  have vl := madeG_ok xs
  have vu := madeU_ok ys
  have ll := madeG_len xs
  have lu := madeU_len ys
  rw [hl] at vl ll
  rw [hu] at vu lu
  have hv := wd_valid vl bn bt
  have hvs := wd_valid vl bn bs
  have hw1 := wdI_len l n t
  have hw2 := wdI_len l n s
  have hw3 := wdI_len (wdI l n t) n s
  have hw4 := wdI_len (wdI l n s) n t
  have hw5 := wdI_len l n (min s t)
  have e1 := wd_wd vl hv bn bs bt
  have e2 := wd_wd vl hvs bn bt bs
  refine CallsV.mk ?_
  refine calls_enter Try.func7 rfl (by intro _ h; first | exact nomatch h.1 | (obtain ⟨_, h, _⟩ := h; exact nomatch h)) Try.ntmps7 rfl ?_
  repeat' (first | refine WP_seq ?_ | refine WP_region ?_ | refine wl_nil ?_ | refine then_normal ?_ | refine WP_skip ?_ | refine WP_condF rfl ?_ | (refine g_move ?_; refine st_move rfl ?_) | (refine g_assign ?_; refine st_assign rfl ?_) | (refine g_un ?_; refine st_val rfl (r_not rfl) ?_) | (refine g_callV ?_; (refine st_callV rfl (r_call0 rfl) (sane_spec) ?_; intro w hb; replace S := S.grow hb; clear hb)))
  refine st_callR rfl (r_call1 rfl rfl) (made_run (hrx.mono S.below) hx hxl) ?_; rintro vL w hb hrow; replace S := S.new hb hrow; clear hb hrow
  repeat' (first | refine WP_seq ?_ | refine WP_region ?_ | refine wl_nil ?_ | refine then_normal ?_ | (refine g_move ?_; refine st_move rfl ?_) | (refine g_assign ?_; refine st_assign rfl ?_))
  refine st_callR rfl (r_call1 rfl rfl) (madeUses_run (hry.mono S.below) hy hyl) ?_; rintro vU w hb hrow; replace S := S.new hb hrow; clear hb hrow
  rw [hl, hu] at S
  obtain ⟨AU, cU, hz⟩ := (S.rdRow (D := fGUse) (i := 1) rfl).len; subst hz
  repeat' (first | refine WP_seq ?_ | refine WP_region ?_ | refine wl_nil ?_ | refine then_normal ?_ | (refine g_move ?_; refine st_move rfl ?_) | (refine g_assign ?_; refine st_assign rfl ?_) | (refine g_callV ?_; first | (refine st_callV rfl (r_call2 rfl rfl rfl) (pick_is hn (by omega) (by omega) (by omega)) ?_; intro w hb; replace S := S.grow hb; clear hb) | (refine st_callV rfl (r_call2 rfl rfl rfl) (pick_is ht (by omega) (by omega) (by omega)) ?_; intro w hb; replace S := S.grow hb; clear hb) | (refine st_callV rfl (r_call2 rfl rfl rfl) (pick_is hs (by omega) (by omega) (by omega)) ?_; intro w hb; replace S := S.grow hb; clear hb)))
  refine st_callR rfl (r_call3 rfl rfl rfl rfl) (withdraw_run (S.rdRow (D := fGGrant) (i := 0) rfl) (by omega)) ?_; rintro vW w hb hrow; replace S := S.new hb hrow; clear hb hrow
  repeat' (first | refine WP_seq ?_ | refine WP_region ?_ | refine wl_nil ?_ | refine then_normal ?_ | refine WP_skip ?_ | refine WP_block ?_ | refine WP_condF rfl ?_ | (refine g_move ?_; refine st_move rfl ?_) | (refine g_assign ?_; refine st_assign rfl ?_) | (refine g_un ?_; refine st_val rfl (r_not rfl) ?_) | (refine g_callV ?_; (refine st_callV rfl (r_call1 rfl rfl) (valid_is (S.rdRow (D := fGGrant) (i := 2) rfl) (by omega) hv) ?_; intro w hb; replace S := S.grow hb; clear hb)))
  have hS : St w0 w [rowOb fGGrant 52 vL l, rowOb fGUse 46 (.slice AU us.length cU) us, rowOb fGGrant 52 vW (wdI l n t)] := S
  clear S
  refine WP_loop (fun k σ w1 => ∃ i : Int, Has σ [(12, vL), (13, .slice AU us.length cU), (14, .int .i64 n), (15, .int .i64 t), (16, .int .i64 s), (17, vW), (18, .int .i64 i)] ∧ St w0 w1 [rowOb fGGrant 52 vL l, rowOb fGUse 46 (.slice AU us.length cU) us, rowOb fGGrant 52 vW (wdI l n t)] ∧ 0 ≤ i ∧ i ≤ us.length ∧ k = us.length - i.toNat) us.length ⟨0, ⟨rfl, rfl, rfl, rfl, rfl, rfl, rfl, trivial⟩, hS, by omega, by omega, by omega⟩ ?_
  clear hS
  rintro k σ w1 ⟨i, hsl, S, hi0, hi1, rfl⟩
  refine WP_has hsl ?_
  by_cases hi : i < us.length
  · have hU := okU_of vu _ (nth_mem hi0 hi)
    have hper := per_wd vl hU bn bt
    repeat' (first | refine WP_seq ?_ | refine WP_region ?_ | refine wl_nil ?_ | refine then_normal ?_ | (refine g_move ?_; refine st_move rfl ?_) | (refine g_b_lss ?_; refine st_val rfl (r_lss rfl rfl) ?_) | (refine g_c_len ?_; refine st_val rfl (r_lenSlice rfl) ?_))
    refine WP_cond rfl (fun _ => ?_) (fun h => absurd (of_decide_eq_false h) (by omega))
    repeat' (first | refine WP_seq ?_ | refine WP_region ?_ | refine wl_nil ?_ | refine then_normal ?_ | refine WP_skip ?_ | refine WP_block ?_ | (refine g_move ?_; refine st_move rfl ?_) | (refine g_indexAddr ?_; (refine st_val rfl (r_indexAddr (S.rdRow (D := fGUse) (i := 1) rfl) rfl rfl ?_ ?_) ?_; (first | omega | (simp <;> omega)); (first | omega | (simp <;> omega)))) | (refine g_load ?_; first | (refine st_val rfl (r_loadElem (S.rdRow (D := fGUse) (i := 1) rfl) rfl ?_ ?_) ?_; (first | omega | (simp <;> omega)); (first | omega | (simp <;> omega))) | refine st_val rfl (r_loadVarA (i := 3) S rfl rfl rfl rfl) ?_) | (refine g_alloc ?_; refine st_valE rfl (r_alloc S) ?_; rintro _ w ⟨b, rfl, -, S'⟩; replace S := S'; clear S') | (refine g_store ?_; first | (refine st_skipE rfl (r_storeVar (i := 0) S rfl rfl rfl rfl (of_decide_eq_true rfl) (of_decide_eq_true rfl)) ?_; intro w S'; replace S := S'; clear S') | (refine st_skipE rfl (r_storeVar (i := 1) S rfl rfl rfl rfl (of_decide_eq_true rfl) (of_decide_eq_true rfl)) ?_; intro w S'; replace S := S'; clear S') | (refine st_skipE rfl (r_storeVar (i := 2) S rfl rfl rfl rfl (of_decide_eq_true rfl) (of_decide_eq_true rfl)) ?_; intro w S'; replace S := S'; clear S') | (refine st_skipE rfl (r_storeVar (i := 3) S rfl rfl rfl rfl (of_decide_eq_true rfl) (of_decide_eq_true rfl)) ?_; intro w S'; replace S := S'; clear S')))
    refine st_callR rfl (r_call2 rfl rfl rfl) (permits_run (u := nth us i) (S.rdRow (D := fGGrant) (i := 0) rfl) (by omega)) ?_; rintro vP w hb hrow; replace S := S.new hb hrow; clear hb hrow
    obtain ⟨AP, cP, hz⟩ := (S.rdRow (D := fInt .i64) (i := 4) rfl).len; subst hz
    repeat' (first | refine WP_seq ?_ | refine WP_region ?_ | refine wl_nil ?_ | refine then_normal ?_ | (refine g_move ?_; refine st_move rfl ?_) | (refine g_assign ?_; refine st_assign rfl ?_) | (refine g_c_len ?_; refine st_val rfl (r_lenSlice rfl) ?_) | (refine g_load ?_; refine st_val rfl (r_loadVarA (i := 3) S rfl rfl rfl rfl) ?_))
    refine st_callR rfl (r_call2 rfl rfl rfl) (permits_run (u := nth us i) (S.rdRow (D := fGGrant) (i := 2) rfl) (by omega)) ?_; rintro vQ w hb hrow; replace S := S.new hb hrow; clear hb hrow
    obtain ⟨AQ, cQ, hz⟩ := (S.rdRow (D := fInt .i64) (i := 5) rfl).len; subst hz
    by_cases hc : (nth us i).Item = n ∧ t ≤ (nth us i).At
    · rw [if_pos hc] at hper
      obtain ⟨hc1, hc2⟩ := hc
      repeat' (first | refine WP_seq ?_ | refine WP_region ?_ | refine wl_nil ?_ | refine then_normal ?_ | refine inB_normal ?_ | refine WP_skip ?_ | (refine g_move ?_; refine st_move rfl ?_) | (refine g_assign ?_; refine st_assign rfl ?_) | (refine g_pick ?_; refine st_pickT rfl rfl ?_) | (refine g_b_add ?_; (refine st_val rfl (r_addN rfl rfl ?_ ?_) ?_; (first | omega | (simp <;> omega)); (first | omega | (simp <;> omega)))) | (refine g_b_eql ?_; refine st_val rfl (r_eql rfl rfl) ?_) | (refine g_b_neq ?_; refine st_val rfl (r_neq rfl rfl) ?_) | (refine g_b_geq ?_; refine st_val rfl (r_geq rfl rfl) ?_) | (refine g_c_len ?_; refine st_val rfl (r_lenSlice rfl) ?_) | (refine g_fieldAddr ?_; refine st_val rfl (r_fieldAddrL rfl) ?_) | (refine g_load ?_; refine st_val rfl (r_loadVar (i := 3) S rfl rfl rfl) ?_) | (refine wl_split rfl rfl (fun h => ?_) (fun h => ?_) <;> (fail_if_success (have hh : true = true := h)) <;> (fail_if_success (have hh : false = false := h)) <;> (try simp only [decide_eq_true_eq, decide_eq_false_iff_not, Bool.not_eq_true', Bool.not_eq_false', Int.not_lt, Int.not_le] at h) <;> (try (exfalso; omega))) | (refine WP_cond rfl (fun h => ?_) (fun h => ?_) <;> (fail_if_success (have hh : true = true := h)) <;> (fail_if_success (have hh : false = false := h)) <;> (try simp only [decide_eq_true_eq, decide_eq_false_iff_not, Bool.not_eq_true', Bool.not_eq_false', Int.not_lt, Int.not_le] at h) <;> (try (exfalso; omega))))
      refine nextI.mk ⟨_, ?_, i + 1, ⟨rfl, rfl, rfl, rfl, rfl, rfl, rfl, trivial⟩, S.keep [true, true, true], by omega, by omega, rfl⟩
      omega
    · rw [if_neg hc] at hper
      repeat' (first | refine WP_seq ?_ | refine WP_region ?_ | refine wl_nil ?_ | refine then_normal ?_ | refine inB_normal ?_ | refine WP_skip ?_ | refine WP_condF rfl ?_ | (refine g_guard ?_; refine st_off rfl ?_) | (refine g_move ?_; refine st_move rfl ?_) | (refine g_assign ?_; refine st_assign rfl ?_) | (refine g_pick ?_; first | refine st_pickT rfl rfl ?_ | refine st_pickF rfl rfl ?_) | (refine g_b_add ?_; (refine st_val rfl (r_addN rfl rfl ?_ ?_) ?_; (first | omega | (simp <;> omega)); (first | omega | (simp <;> omega)))) | (refine g_b_eql ?_; refine st_val rfl (r_eql rfl rfl) ?_) | (refine g_b_neq ?_; refine st_val rfl (r_neq rfl rfl) ?_) | (refine g_b_geq ?_; refine st_val rfl (r_geq rfl rfl) ?_) | (refine g_c_len ?_; refine st_val rfl (r_lenSlice rfl) ?_) | (refine g_fieldAddr ?_; refine st_val rfl (r_fieldAddrL rfl) ?_) | (refine g_load ?_; refine st_val rfl (r_loadVar (i := 3) S rfl rfl rfl) ?_) | (refine wl_split rfl rfl (fun h => ?_) (fun h => ?_) <;> (fail_if_success (have hh : true = true := h)) <;> (fail_if_success (have hh : false = false := h)) <;> (try simp only [decide_eq_true_eq, decide_eq_false_iff_not, Bool.not_eq_true', Bool.not_eq_false', Int.not_lt, Int.not_le] at h) <;> (try (exfalso; omega))) | (refine WP_cond rfl (fun h => ?_) (fun h => ?_) <;> (fail_if_success (have hh : true = true := h)) <;> (fail_if_success (have hh : false = false := h)) <;> (try simp only [decide_eq_true_eq, decide_eq_false_iff_not, Bool.not_eq_true', Bool.not_eq_false', Int.not_lt, Int.not_le] at h) <;> (try (exfalso; omega))))
      all_goals first
        | (refine nextI.mk ⟨_, ?_, i + 1, ⟨rfl, rfl, rfl, rfl, rfl, rfl, rfl, trivial⟩, S.keep [true, true, true], by omega, by omega, rfl⟩; omega)
        | exact absurd ⟨by assumption, by assumption⟩ hc
  · repeat' (first | refine WP_seq ?_ | refine WP_region ?_ | refine wl_nil ?_ | refine then_normal ?_ | refine then_exit ?_ | refine inB_here ?_ | refine WP_exit ?_ | (refine g_move ?_; refine st_move rfl ?_) | (refine g_b_lss ?_; refine st_val rfl (r_lss rfl rfl) ?_) | (refine g_c_len ?_; refine st_val rfl (r_lenSlice rfl) ?_) | (refine WP_cond rfl (fun h => ?_) (fun h => ?_) <;> (fail_if_success (have hh : true = true := h)) <;> (fail_if_success (have hh : false = false := h)) <;> (try simp only [decide_eq_true_eq, decide_eq_false_iff_not, Bool.not_eq_true', Bool.not_eq_false', Int.not_lt, Int.not_le] at h) <;> (try (exfalso; omega))))
    refine st_callR rfl (r_call3 rfl rfl rfl rfl) (withdraw_run (S.rdRow (D := fGGrant) (i := 2) rfl) (by omega)) ?_; rintro v1 w hb hrow; replace S := S.new hb hrow; clear hb hrow
    repeat' (first | refine WP_seq ?_ | refine WP_region ?_ | refine wl_nil ?_ | refine then_normal ?_ | (refine g_move ?_; refine st_move rfl ?_) | (refine g_assign ?_; refine st_assign rfl ?_))
    refine st_callR rfl (r_call3 rfl rfl rfl rfl) (withdraw_run (S.rdRow (D := fGGrant) (i := 0) rfl) (by omega)) ?_; rintro v2 w hb hrow; replace S := S.new hb hrow; clear hb hrow
    repeat' ((refine g_move ?_; refine st_move rfl ?_))
    refine st_callR rfl (r_call3 rfl rfl rfl rfl) (withdraw_run (S.rdRow (D := fGGrant) (i := 4) rfl) (by omega)) ?_; rintro v3 w hb hrow; replace S := S.new hb hrow; clear hb hrow
    repeat' (first | refine WP_seq ?_ | refine WP_region ?_ | refine wl_nil ?_ | refine then_normal ?_ | (refine g_move ?_; refine st_move rfl ?_) | (refine g_assign ?_; refine st_assign rfl ?_) | (refine g_c_min ?_; refine st_val rfl (r_min2 rfl rfl) ?_) | (refine g_callV ?_; (refine st_callV rfl (r_call2 rfl rfl rfl) (same_is (S.rdRow (D := fGGrant) (i := 3) rfl) (S.rdRow (D := fGGrant) (i := 5) rfl) (by omega) (by omega) (decide_eq_true (by rw [e1, e2, Int.min_comm]))) ?_; intro w hb; replace S := S.grow hb; clear hb)))
    refine st_callR rfl (r_call3 rfl rfl rfl rfl) (withdraw_run (S.rdRow (D := fGGrant) (i := 0) rfl) (by omega)) ?_; rintro v4 w hb hrow; replace S := S.new hb hrow; clear hb hrow
    repeat' (first | refine wl_nil ?_ | refine then_normal ?_ | refine WP_ret ?_ | (refine g_assign ?_; refine st_assign rfl ?_) | (refine g_pick ?_; refine st_pickT rfl rfl ?_) | (refine g_callV ?_; (refine st_callV rfl (r_call2 rfl rfl rfl) (same_is (S.rdRow (D := fGGrant) (i := 3) rfl) (S.rdRow (D := fGGrant) (i := 6) rfl) (by omega) (by omega) (decide_eq_true e1)) ?_; intro w hb; replace S := S.grow hb; clear hb)))
    exact end1 rfl rfl ⟨rfl, S.below⟩
end Go.Proofs.Ytfdjnadopniaeaa
