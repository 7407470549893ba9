import Derived.Test.YteplelijhkmbkaaDoorW
namespace Go.Proofs.YteplelijhkmbkaaDoor
open Go Go.Gx Go.RowKit
set_option linter.unusedVariables false
set_option linter.unusedSimpArgs false

theorem counted_t {l : List GContract} {sp : List GSpot} (h : okI l sp = true) : countedI l sp = (cntI l sp, 0) := by unfold countedI; rw [h]; rfl
theorem counted_f {l : List GContract} {sp : List GSpot} (h : okI l sp = false) : countedI l sp = ([], 120) := by unfold countedI; rw [h]; rfl
theorem mayR_run {l : List GContract} {sp : List GSpot} {t : Int} {v1 v2 : Value} {w0 : World} (hr1 : Rd fGContract.ty w0 v1 l) (hr2 : Rd fGSpot.ty w0 v2 sp) (hl : l.length ≤ 1000000000) (hl2 : sp.length ≤ 1000000000) :
    CallsR Tryd.prog 23 #[v1, v2, .int .i64 t] w0 (RowE w0 (mayI l sp t)) := by
  have S := St.start w0
  obtain ⟨A, c, rfl⟩ := hr1.len
  obtain ⟨A2, c2, rfl⟩ := hr2.len
  refine CallsR.mk ?_
  refine calls_enter Tryd.func23 rfl (by intro _ h; first | exact nomatch h.1 | (obtain ⟨_, h, _⟩ := h; exact nomatch h)) Tryd.ntmps23 rfl ?_
  repeat' (first | refine WP_seq ?_ | refine WP_region ?_ | refine wl_nil ?_ | refine then_normal ?_ | (refine g_move ?_; refine st_move rfl ?_) | (refine g_assign ?_; refine st_assign rfl ?_))
  refine st_callR rfl (r_call2 rfl rfl rfl) (countedR_run (hr1.mono S.below) (hr2.mono S.below) hl hl2) ?_
  rintro _ w hb ⟨vo, rfl, hrow⟩; replace S := S.new hb hrow; clear hb hrow
  cases h : okI l sp with
  | false =>
    rw [counted_f h] at S ⊢
    repeat' (first | refine WP_seq ?_ | refine WP_region ?_ | refine wl_nil ?_ | refine then_normal ?_ | refine then_ret ?_ | refine WP_ret ?_ | refine WP_condT rfl ?_ | (refine g_guard ?_; refine st_off rfl ?_) | (refine g_move ?_; refine st_move rfl ?_) | (refine g_assign ?_; refine st_assign rfl ?_) | (refine g_pick ?_; refine st_pickT rfl rfl ?_) | (refine g_b_neq ?_; refine st_val rfl (r_neq rfl rfl) ?_) | (refine g_extract ?_; refine st_val rfl (r_extract rfl rfl) ?_))
    exact end2 rfl rfl rfl ⟨_, rfl, S.below, _, by unfold mayI; rw [h]; rfl, by unfold mayI; rw [h]; exact NewRow.nil _ _ _ _⟩
  | true =>
    rw [counted_t h] at S ⊢
    have hl12 := validC_len (okI_t h).1
    have hp60 := validP_len (okI_t h).2
    have hcl := cntI_len l sp
    have hspb := okP_sp h
    cases ht : inR t 0 9999999 with
    | false =>
      repeat' (first | refine WP_seq ?_ | refine WP_region ?_ | refine wl_nil ?_ | refine then_normal ?_ | refine then_ret ?_ | refine WP_ret ?_ | refine WP_condT rfl ?_ | (refine g_move ?_; refine st_move rfl ?_) | (refine g_assign ?_; refine st_assign rfl ?_) | (refine g_pick ?_; refine st_pickF rfl rfl ?_) | (refine g_b_neq ?_; refine st_val rfl (r_neq rfl rfl) ?_) | (refine g_un ?_; refine st_val rfl (r_not rfl) ?_) | (refine g_extract ?_; refine st_val rfl (r_extract rfl rfl) ?_) | (refine g_callV ?_; (refine st_callV rfl (r_call3 rfl rfl rfl rfl) (in_is ht) ?_; intro w hb; replace S := S.grow hb; clear hb)))
      exact end2 rfl rfl rfl ⟨_, rfl, S.below, _, by unfold mayI; rw [h, ht]; rfl, by unfold mayI; rw [h, ht]; exact NewRow.nil _ _ _ _⟩
    | true =>
      have htr := inR_t ht
      have em : mayI l sp t = ((l.filter (mayP l sp t)).map fun c => c.ID, 0) := by unfold mayI; rw [h, ht]; rfl
      rw [em]
      repeat' (first | refine WP_seq ?_ | refine WP_region ?_ | refine wl_nil ?_ | refine then_normal ?_ | refine WP_skip ?_ | refine WP_block ?_ | refine WP_condF rfl ?_ | (refine g_move ?_; refine st_move rfl ?_) | (refine g_assign ?_; refine st_assign rfl ?_) | (refine g_pick ?_; refine st_pickF rfl rfl ?_) | (refine g_b_neq ?_; refine st_val rfl (r_neq rfl rfl) ?_) | (refine g_un ?_; refine st_val rfl (r_not rfl) ?_) | (refine g_extract ?_; refine st_val rfl (r_extract rfl rfl) ?_) | (refine g_callV ?_; (refine st_callV rfl (r_call3 rfl rfl rfl rfl) (in_is ht) ?_; intro w hb; replace S := S.grow hb; clear hb)))
      replace S := S.nilRow (fInt .i64) 3
      refine WP_loop (fun k σ w1 => ∃ (i : Int) (vr : Value), Has σ [(0, .slice A l.length c), (1, .slice A2 sp.length c2), (2, .int .i64 t), (8, vo), (10, vr), (11, .int .i64 i)] ∧ St w0 w1 [rowOb (fInt .i64) 3 vo (cntI l sp), rowOb (fInt .i64) 3 vr (((l.take i.toNat).filter (mayP l sp t)).map fun c => c.ID)] ∧ 0 ≤ i ∧ i ≤ l.length ∧ k = l.length - i.toNat) l.length ⟨0, _, ⟨rfl, rfl, rfl, rfl, rfl, rfl, trivial⟩, S, by omega, by omega, by omega⟩ ?_
      clear S
      rintro k σ w1 ⟨i, vr, hs, S, hi0, hi1, hk⟩
      refine WP_has hs ?_
      by_cases hi : i < l.length
      · have hstep := take_filter (p := mayP l sp t) hi0 hi
        have hlr : (((l.take i.toNat).filter (mayP l sp t)).map fun c => c.ID).length ≤ 12 := by
          rw [List.length_map]
          have := List.length_filter_le (mayP l sp t) (l.take i.toNat)
          rw [List.length_take] at this; omega
        obtain ⟨z, hz⟩ : ∃ z, rsn l (spAt sp (cntI l sp)) ⟨(nth l i).ID, t⟩ = z := ⟨_, rfl⟩
        by_cases h0 : z = 0
        · have hp : mayP l sp t (nth l i) = true := decide_eq_true (by rw [← h0]; exact hz)
          rw [hp, if_pos rfl] at hstep
          subst h0
          repeat' (first | refine WP_seq ?_ | refine WP_region ?_ | refine wl_nil ?_ | refine then_normal ?_ | refine WP_skip ?_ | refine WP_block ?_ | refine WP_condT rfl ?_ | (refine g_move ?_; refine st_move rfl ?_) | (refine g_b_eql ?_; refine st_val rfl (r_eql rfl rfl) ?_) | (refine g_b_lss ?_; refine st_val rfl (r_lss rfl rfl) ?_) | (refine g_build ?_; refine st_val rfl (bd31_0_1 rfl rfl) ?_) | (refine g_c_len ?_; refine st_val rfl (r_lenSlice rfl) ?_) | (refine g_fieldAddr ?_; refine st_val rfl (r_fieldAddr rfl) ?_) | (refine g_indexAddr ?_; (refine st_val rfl (r_indexAddr (hr1.mono S.below) rfl rfl ?_ ?_) ?_; (first | omega | (simp <;> omega)); (first | omega | (simp <;> omega)))) | (refine g_load ?_; (refine st_val rfl (r_loadElem1 (hr1.mono S.below) rfl ?_ ?_ rfl) ?_; (first | omega | (simp <;> omega)); (first | omega | (simp <;> omega)))) | (refine g_callV ?_; (refine st_callV rfl (r_call4 rfl rfl rfl rfl rfl) (reasonR_is (x := ⟨(nth l i).ID, t⟩) hz (hr1.mono S.below) (hr2.mono S.below) (S.rdRow (D := fInt .i64) (i := 0) rfl) hl hl2 (by omega) htr hspb (fun y hy => cntI_mem hy) (cntI_found l sp)) ?_; intro w hb; replace S := S.grow hb; clear hb)) | (refine WP_cond rfl (fun h => ?_) (fun h => ?_) <;> (fail_if_success (have hh : true = true := h)) <;> (fail_if_success (have hh : false = false := h)) <;> (try simp only [decide_eq_true_eq, decide_eq_false_iff_not, Bool.not_eq_true', Bool.not_eq_false', Int.not_lt, Int.not_le] at h) <;> (try (exfalso; omega))))
          refine st_valE rfl (r_litF (D := fInt .i64) [(nth l i).ID] (Value.int .i64) S rfl rfl (fun _ => rfl) rfl (by decide) (by decide)) ?_
          rintro _ w ⟨bl, rfl, -, hcl, S'⟩; replace S := S'; clear S'
          refine st_valE rfl (r_append1 (D := fInt .i64) (i := 1) (b := bl) (x := (nth l i).ID) S rfl rfl rfl (fl_one hcl) rfl (by decide) (of_decide_eq_true rfl) (by omega) (by omega)) ?_
          rintro vr' w ⟨-, S'⟩; replace S := S'; clear S' hcl
          repeat' (first | refine WP_region ?_ | refine wl_nil ?_ | refine then_normal ?_ | refine inB_normal ?_ | (refine g_move ?_; refine st_move rfl ?_) | (refine g_assign ?_; refine st_assign rfl ?_) | (refine g_b_add ?_; (refine st_val rfl (r_addN rfl rfl ?_ ?_) ?_; (first | omega | (simp <;> omega)); (first | omega | (simp <;> omega)))))
          refine ⟨⟨_, ?_, i + 1, vr', ⟨rfl, rfl, rfl, rfl, rfl, rfl, trivial⟩, by rw [hstep]; exact S.keep [true, true], by omega, by omega, rfl⟩⟩
          omega
        · have hp : mayP l sp t (nth l i) = false := decide_eq_false (by show ¬ rsn l (spAt sp (cntI l sp)) _ = 0; rw [hz]; exact h0)
          rw [hp] at hstep
          repeat' (first | refine WP_seq ?_ | refine WP_region ?_ | refine wl_nil ?_ | refine then_normal ?_ | refine inB_normal ?_ | refine WP_skip ?_ | refine WP_block ?_ | (refine g_move ?_; refine st_move rfl ?_) | (refine g_assign ?_; refine st_assign rfl ?_) | (refine g_b_add ?_; (refine st_val rfl (r_addN rfl rfl ?_ ?_) ?_; (first | omega | (simp <;> omega)); (first | omega | (simp <;> omega)))) | (refine g_b_eql ?_; refine st_val rfl (r_eql rfl rfl) ?_) | (refine g_b_lss ?_; refine st_val rfl (r_lss rfl rfl) ?_) | (refine g_build ?_; refine st_val rfl (bd31_0_1 rfl rfl) ?_) | (refine g_c_len ?_; refine st_val rfl (r_lenSlice rfl) ?_) | (refine g_fieldAddr ?_; refine st_val rfl (r_fieldAddr rfl) ?_) | (refine g_indexAddr ?_; (refine st_val rfl (r_indexAddr (hr1.mono S.below) rfl rfl ?_ ?_) ?_; (first | omega | (simp <;> omega)); (first | omega | (simp <;> omega)))) | (refine g_load ?_; (refine st_val rfl (r_loadElem1 (hr1.mono S.below) rfl ?_ ?_ rfl) ?_; (first | omega | (simp <;> omega)); (first | omega | (simp <;> omega)))) | (refine g_callV ?_; (refine st_callV rfl (r_call4 rfl rfl rfl rfl rfl) (reasonR_is (x := ⟨(nth l i).ID, t⟩) hz (hr1.mono S.below) (hr2.mono S.below) (S.rdRow (D := fInt .i64) (i := 0) rfl) hl hl2 (by omega) htr hspb (fun y hy => cntI_mem hy) (cntI_found l sp)) ?_; intro w hb; replace S := S.grow hb; clear hb)) | (refine WP_cond rfl (fun h => ?_) (fun h => ?_) <;> (fail_if_success (have hh : true = true := h)) <;> (fail_if_success (have hh : false = false := h)) <;> (try simp only [decide_eq_true_eq, decide_eq_false_iff_not, Bool.not_eq_true', Bool.not_eq_false', Int.not_lt, Int.not_le] at h) <;> (try (exfalso; omega))))
          refine ⟨⟨_, ?_, i + 1, vr, ⟨rfl, rfl, rfl, rfl, rfl, rfl, trivial⟩, by rw [hstep]; simp only [Bool.false_eq_true, if_false, List.append_nil]; exact S.keep [true, true], by omega, by omega, rfl⟩⟩
          omega
      · have hit : i.toNat = l.length := by omega
        rw [hit, List.take_length] at S
        repeat' (first | refine WP_seq ?_ | refine WP_region ?_ | refine wl_nil ?_ | refine then_normal ?_ | refine then_exit ?_ | refine inB_here ?_ | refine WP_ret ?_ | refine WP_exit ?_ | (refine g_move ?_; refine st_move rfl ?_) | (refine g_assign ?_; refine st_assign rfl ?_) | (refine g_b_lss ?_; refine st_val rfl (r_lss rfl rfl) ?_) | (refine g_c_len ?_; refine st_val rfl (r_lenSlice rfl) ?_) | (refine WP_cond rfl (fun h => ?_) (fun h => ?_) <;> (fail_if_success (have hh : true = true := h)) <;> (fail_if_success (have hh : false = false := h)) <;> (try simp only [decide_eq_true_eq, decide_eq_false_iff_not, Bool.not_eq_true', Bool.not_eq_false', Int.not_lt, Int.not_le] at h) <;> (try (exfalso; omega))))
        exact end2 rfl rfl rfl ⟨_, rfl, S.below, vr, rfl, S.row (i := 1) rfl⟩
theorem missI_t {cnt : List GSpot} {t : Int} {c : GContract} (h : ¬ t < c.Window.To) : missI cnt t c = c.Count - cntC cnt c.ID := by unfold missI; rw [if_pos (by omega)]
theorem missI_f {cnt : List GSpot} {t : Int} {c : GContract} (h : t < c.Window.To) : missI cnt t c = 0 := by unfold missI; rw [if_neg (by omega)]
theorem missingR_run {l : List GContract} {sp : List GSpot} {t : Int} {v1 v2 : Value} {w0 : World} (hr1 : Rd fGContract.ty w0 v1 l) (hr2 : Rd fGSpot.ty w0 v2 sp) (hl : l.length ≤ 1000000000) (hl2 : sp.length ≤ 1000000000) :
    CallsR Tryd.prog 25 #[v1, v2, .int .i64 t] w0 (RowE w0 (missingI l sp t)) := by
  have S := St.start w0
  obtain ⟨A, c, rfl⟩ := hr1.len
  obtain ⟨A2, c2, rfl⟩ := hr2.len
  refine CallsR.mk ?_
  refine calls_enter Tryd.func25 rfl (by intro _ h; first | exact nomatch h.1 | (obtain ⟨_, h, _⟩ := h; exact nomatch h)) Tryd.ntmps25 rfl ?_
  repeat' (first | refine WP_seq ?_ | refine WP_region ?_ | refine wl_nil ?_ | refine then_normal ?_ | (refine g_move ?_; refine st_move rfl ?_) | (refine g_assign ?_; refine st_assign rfl ?_))
  refine st_callR rfl (r_call2 rfl rfl rfl) (countedR_run (hr1.mono S.below) (hr2.mono S.below) hl hl2) ?_
  rintro _ w hb ⟨vo, rfl, hrow⟩; replace S := S.new hb hrow; clear hb hrow
  cases h : okI l sp with
  | false =>
    rw [counted_f h] at S ⊢
    repeat' (first | refine WP_seq ?_ | refine WP_region ?_ | refine wl_nil ?_ | refine then_normal ?_ | refine then_ret ?_ | refine WP_ret ?_ | refine WP_condT rfl ?_ | (refine g_guard ?_; refine st_off rfl ?_) | (refine g_move ?_; refine st_move rfl ?_) | (refine g_assign ?_; refine st_assign rfl ?_) | (refine g_pick ?_; refine st_pickT rfl rfl ?_) | (refine g_b_neq ?_; refine st_val rfl (r_neq rfl rfl) ?_) | (refine g_extract ?_; refine st_val rfl (r_extract rfl rfl) ?_))
    exact end2 rfl rfl rfl ⟨_, rfl, S.below, _, by unfold missingI; rw [h]; rfl, by unfold missingI; rw [h]; exact NewRow.nil _ _ _ _⟩
  | true =>
    rw [counted_t h] at S ⊢
    have hl12 := validC_len (okI_t h).1
    have hp60 := validP_len (okI_t h).2
    have hcl := cntI_len l sp
    obtain ⟨out, hout⟩ : ∃ out, cntI l sp = out := ⟨_, rfl⟩
    have hom : ∀ x ∈ out, 0 ≤ x ∧ x < sp.length := by rw [← hout]; exact fun y hy => cntI_mem hy
    have hcs : cntS l sp = spAt sp out := by rw [← hout]
    rw [hout] at hcl
    replace S : St w0 w [rowOb (fInt .i64) 3 vo out] := by rw [← hout]; exact S
    obtain ⟨A3, c3, hz⟩ := (S.rdRow (D := fInt .i64) (i := 0) rfl).len; subst hz
    cases ht : inR t 0 10000000 with
    | false =>
      repeat' (first | refine WP_seq ?_ | refine WP_region ?_ | refine wl_nil ?_ | refine then_normal ?_ | refine then_ret ?_ | refine WP_ret ?_ | refine WP_condT rfl ?_ | (refine g_move ?_; refine st_move rfl ?_) | (refine g_assign ?_; refine st_assign rfl ?_) | (refine g_pick ?_; refine st_pickF rfl rfl ?_) | (refine g_b_neq ?_; refine st_val rfl (r_neq rfl rfl) ?_) | (refine g_un ?_; refine st_val rfl (r_not rfl) ?_) | (refine g_extract ?_; refine st_val rfl (r_extract rfl rfl) ?_) | (refine g_callV ?_; (refine st_callV rfl (r_call3 rfl rfl rfl rfl) (in_is ht) ?_; intro w hb; replace S := S.grow hb; clear hb)))
      exact end2 rfl rfl rfl ⟨_, rfl, S.below, _, by unfold missingI; rw [h, ht]; rfl, by unfold missingI; rw [h, ht]; exact NewRow.nil _ _ _ _⟩
    | true =>
      have htr := inR_t ht
      have em : missingI l sp t = (l.map (missI (spAt sp out) t), 0) := by unfold missingI; rw [h, ht, hcs]; rfl
      rw [em]
      repeat' (first | refine WP_seq ?_ | refine WP_region ?_ | refine wl_nil ?_ | refine then_normal ?_ | refine WP_skip ?_ | refine WP_block ?_ | refine WP_condF rfl ?_ | (refine g_move ?_; refine st_move rfl ?_) | (refine g_assign ?_; refine st_assign rfl ?_) | (refine g_pick ?_; refine st_pickF rfl rfl ?_) | (refine g_b_neq ?_; refine st_val rfl (r_neq rfl rfl) ?_) | (refine g_un ?_; refine st_val rfl (r_not rfl) ?_) | (refine g_extract ?_; refine st_val rfl (r_extract rfl rfl) ?_) | (refine g_callV ?_; (refine st_callV rfl (r_call3 rfl rfl rfl rfl) (in_is ht) ?_; intro w hb; replace S := S.grow hb; clear hb)))
      replace S := S.nilRow (fInt .i64) 3
      refine WP_loop (fun k σ w1 => ∃ (i : Int) (vr : Value), Has σ [(0, .slice A l.length c), (1, .slice A2 sp.length c2), (2, .int .i64 t), (8, .slice A3 out.length c3), (10, vr), (11, .int .i64 i)] ∧ St w0 w1 [rowOb (fInt .i64) 3 (.slice A3 out.length c3) out, rowOb (fInt .i64) 3 vr ((l.take i.toNat).map (missI (spAt sp out) t))] ∧ 0 ≤ i ∧ i ≤ l.length ∧ k = l.length - i.toNat) l.length ⟨0, _, ⟨rfl, rfl, rfl, rfl, rfl, rfl, trivial⟩, S, by omega, by omega, by omega⟩ ?_
      clear S
      rintro k σ w1 ⟨i, vr, hs, S, hi0, hi1, hk⟩
      refine WP_has hs ?_
      by_cases hi : i < l.length
      · have hstep := take_map (f := missI (spAt sp out) t) hi0 hi
        have hlr : ((l.take i.toNat).map (missI (spAt sp out) t)).length ≤ 12 := by rw [List.length_map, List.length_take]; omega
        have hok := valid_ok (okI_t h).1 (nth_mem hi0 hi)
        have hcnt : 1 ≤ (nth l i).Count ∧ (nth l i).Count ≤ 50 := by
          unfold okC okN at hok
          simp only [Bool.and_eq_true, decide_eq_true_eq] at hok
          omega
        repeat' (first | refine WP_seq ?_ | refine WP_region ?_ | refine wl_nil ?_ | refine then_normal ?_ | refine WP_skip ?_ | refine WP_block ?_ | (refine g_move ?_; refine st_move rfl ?_) | (refine g_assign ?_; refine st_assign rfl ?_) | (refine g_b_lss ?_; refine st_val rfl (r_lss rfl rfl) ?_) | (refine g_c_len ?_; refine st_val rfl (r_lenSlice rfl) ?_) | (refine g_fieldAddr ?_; refine st_val rfl (r_fieldAddr rfl) ?_) | (refine g_indexAddr ?_; (refine st_val rfl (r_indexAddr (hr1.mono S.below) rfl rfl ?_ ?_) ?_; (first | omega | (simp <;> omega)); (first | omega | (simp <;> omega)))) | (refine g_load ?_; (refine st_val rfl (r_loadElemF (hr1.mono S.below) rfl ?_ ?_ rfl) ?_; (first | omega | (simp <;> omega)); (first | omega | (simp <;> omega)))) | (refine WP_cond rfl (fun h => ?_) (fun h => ?_) <;> (fail_if_success (have hh : true = true := h)) <;> (fail_if_success (have hh : false = false := h)) <;> (try simp only [decide_eq_true_eq, decide_eq_false_iff_not, Bool.not_eq_true', Bool.not_eq_false', Int.not_lt, Int.not_le] at h) <;> (try (exfalso; omega))))
        refine WP_loop (fun k σ w1 => ∃ (j p : Int), Has σ [(0, .slice A l.length c), (1, .slice A2 sp.length c2), (2, .int .i64 t), (8, .slice A3 out.length c3), (10, vr), (11, .int .i64 i), (12, .int .i64 p), (13, .int .i64 j)] ∧ St w0 w1 [rowOb (fInt .i64) 3 (.slice A3 out.length c3) out, rowOb (fInt .i64) 3 vr ((l.take i.toNat).map (missI (spAt sp out) t))] ∧ 0 ≤ j ∧ j ≤ out.length ∧ p = (nth l i).Count - cntC (spAt sp (out.take j.toNat)) (nth l i).ID ∧ k = out.length - j.toNat) out.length ⟨0, _, ⟨rfl, rfl, rfl, rfl, rfl, rfl, rfl, rfl, trivial⟩, S, by omega, by omega, (Int.sub_zero _).symm, by omega⟩ ?_
        clear S hs
        rintro k' σ w1 ⟨j, p, hs, S, hj0, hj1, hp, hk'⟩
        refine WP_has hs ?_
        have hple := @cntC_le (spAt sp (out.take j.toNat)) (nth l i).ID
        rw [spAt_len, List.length_take] at hple
        by_cases hj : j < out.length
        · have hor := hom _ (nth_mem hj0 hj)
          have e := spAt_take (sp := sp) hj0 hj
          have eC := @cntC_snoc (spAt sp (out.take j.toNat)) (nth sp (nth out j)) (nth l i).ID
          rw [← e] at eC
          by_cases he : (nth sp (nth out j)).Contract = (nth l i).ID
          · rw [if_pos he] at eC
            repeat' (first | refine WP_seq ?_ | refine WP_region ?_ | refine wl_nil ?_ | refine then_normal ?_ | refine inB_normal ?_ | refine WP_skip ?_ | refine WP_block ?_ | refine WP_draw (by kernel_rfl) (by kernel_rfl) ?_ | (refine ql_nil ?_; intro w hb; replace S := S.grow hb; clear hb) | (refine g_move ?_; refine st_move rfl ?_) | (refine g_assign ?_; refine st_assign rfl ?_) | (refine g_b_add ?_; (refine st_val rfl (r_addN rfl rfl ?_ ?_) ?_; (first | omega | (simp <;> omega)); (first | omega | (simp <;> omega)))) | (refine g_b_sub ?_; (refine st_val rfl (r_subN rfl rfl ?_ ?_) ?_; (first | omega | (simp <;> omega)); (first | omega | (simp <;> omega)))) | (refine g_b_lss ?_; refine st_val rfl (r_lss rfl rfl) ?_) | (refine g_c_len ?_; refine st_val rfl (r_lenSlice rfl) ?_) | (refine gq_move ?_; refine q_move rfl ?_) | (refine gq_b_eql ?_; refine q_val rfl (fun w' hb => r_eql rfl rfl) ?_) | (refine gq_fieldAddr ?_; refine q_val rfl (fun w' hb => r_fieldAddr rfl) ?_) | (refine gq_indexAddr ?_; first | (refine q_val rfl (fun w' hb => r_indexAddr (hr1.mono (S.grow hb).below) rfl rfl ?_ ?_) ?_; (first | omega | (simp <;> omega)); (first | omega | (simp <;> omega))) | (refine q_val rfl (fun w' hb => r_indexAddr (hr2.mono (S.grow hb).below) rfl rfl ?_ ?_) ?_; (first | omega | (simp <;> omega)); (first | omega | (simp <;> omega))) | (refine q_val rfl (fun w' hb => r_indexAddr ((S.grow hb).rdRow (D := (fInt .i64)) (i := 0) rfl) rfl rfl ?_ ?_) ?_; (first | omega | (simp <;> omega)); (first | omega | (simp <;> omega)))) | (refine gq_load ?_; first | (refine q_val rfl (fun w' hb => r_loadElem1 (hr1.mono (S.grow hb).below) rfl ?_ ?_ rfl) ?_; (first | omega | (simp <;> omega)); (first | omega | (simp <;> omega))) | (refine q_val rfl (fun w' hb => r_loadElem1 (hr2.mono (S.grow hb).below) rfl ?_ ?_ rfl) ?_; (first | omega | (simp <;> omega)); (first | omega | (simp <;> omega))) | (refine q_val rfl (fun w' hb => r_loadElem1 ((S.grow hb).rdRow (D := (fInt .i64)) (i := 0) rfl) rfl ?_ ?_ rfl) ?_; (first | omega | (simp <;> omega)); (first | omega | (simp <;> omega)))) | (refine WP_cond rfl (fun h => ?_) (fun h => ?_) <;> (fail_if_success (have hh : true = true := h)) <;> (fail_if_success (have hh : false = false := h)) <;> (try simp only [decide_eq_true_eq, decide_eq_false_iff_not, Bool.not_eq_true', Bool.not_eq_false', Int.not_lt, Int.not_le] at h) <;> (try (exfalso; omega))))
            refine ⟨⟨_, ?_, j + 1, _, ⟨rfl, rfl, rfl, rfl, rfl, rfl, rfl, rfl, trivial⟩, S, by omega, by omega, by omega, rfl⟩⟩
            omega
          · rw [if_neg he] at eC
            repeat' (first | refine WP_seq ?_ | refine WP_region ?_ | refine wl_nil ?_ | refine then_normal ?_ | refine inB_normal ?_ | refine WP_skip ?_ | refine WP_block ?_ | refine WP_draw (by kernel_rfl) (by kernel_rfl) ?_ | (refine ql_nil ?_; intro w hb; replace S := S.grow hb; clear hb) | (refine g_move ?_; refine st_move rfl ?_) | (refine g_assign ?_; refine st_assign rfl ?_) | (refine g_b_add ?_; (refine st_val rfl (r_addN rfl rfl ?_ ?_) ?_; (first | omega | (simp <;> omega)); (first | omega | (simp <;> omega)))) | (refine g_b_lss ?_; refine st_val rfl (r_lss rfl rfl) ?_) | (refine g_c_len ?_; refine st_val rfl (r_lenSlice rfl) ?_) | (refine gq_move ?_; refine q_move rfl ?_) | (refine gq_b_eql ?_; refine q_val rfl (fun w' hb => r_eql rfl rfl) ?_) | (refine gq_fieldAddr ?_; refine q_val rfl (fun w' hb => r_fieldAddr rfl) ?_) | (refine gq_indexAddr ?_; first | (refine q_val rfl (fun w' hb => r_indexAddr (hr1.mono (S.grow hb).below) rfl rfl ?_ ?_) ?_; (first | omega | (simp <;> omega)); (first | omega | (simp <;> omega))) | (refine q_val rfl (fun w' hb => r_indexAddr (hr2.mono (S.grow hb).below) rfl rfl ?_ ?_) ?_; (first | omega | (simp <;> omega)); (first | omega | (simp <;> omega))) | (refine q_val rfl (fun w' hb => r_indexAddr ((S.grow hb).rdRow (D := (fInt .i64)) (i := 0) rfl) rfl rfl ?_ ?_) ?_; (first | omega | (simp <;> omega)); (first | omega | (simp <;> omega)))) | (refine gq_load ?_; first | (refine q_val rfl (fun w' hb => r_loadElem1 (hr1.mono (S.grow hb).below) rfl ?_ ?_ rfl) ?_; (first | omega | (simp <;> omega)); (first | omega | (simp <;> omega))) | (refine q_val rfl (fun w' hb => r_loadElem1 (hr2.mono (S.grow hb).below) rfl ?_ ?_ rfl) ?_; (first | omega | (simp <;> omega)); (first | omega | (simp <;> omega))) | (refine q_val rfl (fun w' hb => r_loadElem1 ((S.grow hb).rdRow (D := (fInt .i64)) (i := 0) rfl) rfl ?_ ?_ rfl) ?_; (first | omega | (simp <;> omega)); (first | omega | (simp <;> omega)))) | (refine WP_cond rfl (fun h => ?_) (fun h => ?_) <;> (fail_if_success (have hh : true = true := h)) <;> (fail_if_success (have hh : false = false := h)) <;> (try simp only [decide_eq_true_eq, decide_eq_false_iff_not, Bool.not_eq_true', Bool.not_eq_false', Int.not_lt, Int.not_le] at h) <;> (try (exfalso; omega))))
            refine ⟨⟨_, ?_, j + 1, _, ⟨rfl, rfl, rfl, rfl, rfl, rfl, rfl, rfl, trivial⟩, S, by omega, by omega, by omega, rfl⟩⟩
            omega
        · have hjt : j.toNat = out.length := by omega
          rw [hjt, List.take_length] at hp
          obtain ⟨z, hz⟩ : ∃ z, missI (spAt sp out) t (nth l i) = z := ⟨_, rfl⟩
          by_cases h0 : t < (nth l i).Window.To
          · have hz' := hz
            rw [missI_f h0] at hz'
            subst hz'
            repeat' (first | refine WP_seq ?_ | refine WP_region ?_ | refine wl_nil ?_ | refine then_normal ?_ | refine then_exit ?_ | refine inB_here ?_ | refine WP_exit ?_ | (refine g_move ?_; refine st_move rfl ?_) | (refine g_assign ?_; refine st_assign rfl ?_) | (refine g_b_lss ?_; refine st_val rfl (r_lss rfl rfl) ?_) | (refine g_b_gtr ?_; refine st_val rfl (r_gtr rfl rfl) ?_) | (refine g_c_len ?_; refine st_val rfl (r_lenSlice rfl) ?_) | (refine g_fieldAddr ?_; first | refine st_val rfl (r_fieldAddrA rfl) ?_ | refine st_val rfl (r_fieldAddr rfl) ?_) | (refine g_indexAddr ?_; (refine st_val rfl (r_indexAddr (hr1.mono S.below) rfl rfl ?_ ?_) ?_; (first | omega | (simp <;> omega)); (first | omega | (simp <;> omega)))) | (refine g_load ?_; (refine st_val rfl (r_loadElemF (hr1.mono S.below) rfl ?_ ?_ rfl) ?_; (first | omega | (simp <;> omega)); (first | omega | (simp <;> omega)))) | (refine WP_cond rfl (fun h => ?_) (fun h => ?_) <;> (fail_if_success (have hh : true = true := h)) <;> (fail_if_success (have hh : false = false := h)) <;> (try simp only [decide_eq_true_eq, decide_eq_false_iff_not, Bool.not_eq_true', Bool.not_eq_false', Int.not_lt, Int.not_le] at h) <;> (try (exfalso; omega))))
            refine st_valE rfl (r_litF (D := fInt .i64) [0] (Value.int .i64) S rfl rfl (fun _ => rfl) rfl (by decide) (by decide)) ?_
            rintro _ w ⟨bl, rfl, -, hcl, S'⟩; replace S := S'; clear S'
            refine st_valE rfl (r_append1 (D := fInt .i64) (i := 1) (b := bl) (x := 0) S rfl rfl rfl (fl_one hcl) rfl (by decide) (of_decide_eq_true rfl) (by omega) (by omega)) ?_
            rintro vr' w ⟨-, S'⟩; replace S := S'; clear S' hcl
            repeat' (first | refine WP_region ?_ | refine wl_nil ?_ | refine then_normal ?_ | refine inB_normal ?_ | (refine g_move ?_; refine st_move rfl ?_) | (refine g_assign ?_; refine st_assign rfl ?_) | (refine g_b_add ?_; (refine st_val rfl (r_addN rfl rfl ?_ ?_) ?_; (first | omega | (simp <;> omega)); (first | omega | (simp <;> omega)))))
            refine ⟨⟨_, ?_, i + 1, vr', ⟨rfl, rfl, rfl, rfl, rfl, rfl, trivial⟩, by rw [hstep, hz]; exact S.keep [true, true], by omega, by omega, rfl⟩⟩
            omega
          · have hz' := hz
            rw [missI_t h0, ← hp] at hz'
            subst hz'
            repeat' (first | refine WP_seq ?_ | refine WP_region ?_ | refine wl_nil ?_ | refine then_normal ?_ | refine then_exit ?_ | refine inB_here ?_ | refine WP_skip ?_ | refine WP_exit ?_ | (refine g_move ?_; refine st_move rfl ?_) | (refine g_b_lss ?_; refine st_val rfl (r_lss rfl rfl) ?_) | (refine g_b_gtr ?_; refine st_val rfl (r_gtr rfl rfl) ?_) | (refine g_c_len ?_; refine st_val rfl (r_lenSlice rfl) ?_) | (refine g_fieldAddr ?_; first | refine st_val rfl (r_fieldAddrA rfl) ?_ | refine st_val rfl (r_fieldAddr rfl) ?_) | (refine g_indexAddr ?_; (refine st_val rfl (r_indexAddr (hr1.mono S.below) rfl rfl ?_ ?_) ?_; (first | omega | (simp <;> omega)); (first | omega | (simp <;> omega)))) | (refine g_load ?_; (refine st_val rfl (r_loadElemF (hr1.mono S.below) rfl ?_ ?_ rfl) ?_; (first | omega | (simp <;> omega)); (first | omega | (simp <;> omega)))) | (refine WP_cond rfl (fun h => ?_) (fun h => ?_) <;> (fail_if_success (have hh : true = true := h)) <;> (fail_if_success (have hh : false = false := h)) <;> (try simp only [decide_eq_true_eq, decide_eq_false_iff_not, Bool.not_eq_true', Bool.not_eq_false', Int.not_lt, Int.not_le] at h) <;> (try (exfalso; omega))))
            refine st_valE rfl (r_litF (D := fInt .i64) [p] (Value.int .i64) S rfl rfl (fun _ => rfl) rfl (by decide) (by decide)) ?_
            rintro _ w ⟨bl, rfl, -, hcl, S'⟩; replace S := S'; clear S'
            refine st_valE rfl (r_append1 (D := fInt .i64) (i := 1) (b := bl) (x := p) S rfl rfl rfl (fl_one hcl) rfl (by decide) (of_decide_eq_true rfl) (by omega) (by omega)) ?_
            rintro vr' w ⟨-, S'⟩; replace S := S'; clear S' hcl
            repeat' (first | refine WP_region ?_ | refine wl_nil ?_ | refine then_normal ?_ | refine inB_normal ?_ | (refine g_move ?_; refine st_move rfl ?_) | (refine g_assign ?_; refine st_assign rfl ?_) | (refine g_b_add ?_; (refine st_val rfl (r_addN rfl rfl ?_ ?_) ?_; (first | omega | (simp <;> omega)); (first | omega | (simp <;> omega)))))
            refine ⟨⟨_, ?_, i + 1, vr', ⟨rfl, rfl, rfl, rfl, rfl, rfl, trivial⟩, by rw [hstep, hz]; exact S.keep [true, true], by omega, by omega, rfl⟩⟩
            omega
      · have hit : i.toNat = l.length := by omega
        rw [hit, List.take_length] at S
        repeat' (first | refine WP_seq ?_ | refine WP_region ?_ | refine wl_nil ?_ | refine then_normal ?_ | refine then_exit ?_ | refine inB_here ?_ | refine WP_ret ?_ | refine WP_exit ?_ | (refine g_move ?_; refine st_move rfl ?_) | (refine g_assign ?_; refine st_assign rfl ?_) | (refine g_b_lss ?_; refine st_val rfl (r_lss rfl rfl) ?_) | (refine g_c_len ?_; refine st_val rfl (r_lenSlice rfl) ?_) | (refine WP_cond rfl (fun h => ?_) (fun h => ?_) <;> (fail_if_success (have hh : true = true := h)) <;> (fail_if_success (have hh : false = false := h)) <;> (try simp only [decide_eq_true_eq, decide_eq_false_iff_not, Bool.not_eq_true', Bool.not_eq_false', Int.not_lt, Int.not_le] at h) <;> (try (exfalso; omega))))
        exact end2 rfl rfl rfl ⟨_, rfl, S.below, vr, rfl, S.row (i := 1) rfl⟩
end Go.Proofs.YteplelijhkmbkaaDoor
