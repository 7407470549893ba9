import Derived.Test.YtcbidfedffegpaaW
namespace Go.Proofs.Ytcbidfedffegpaa
open Go Go.Gx Go.RowKit
set_option linter.unusedVariables false
set_option linter.unusedSimpArgs false
set_option maxRecDepth 20000 in
set_option maxHeartbeats 16000000 in
theorem divides_spec {n which after : Int} {v : Value} {xs : List GArr4Int} {w0 : World} (hn : inI n) (hr : Rd fGArr4Int.ty w0 v xs) (hx : ∀ x ∈ xs, okA4 x) (hl : xs.length ≤ maxLen) (hw : inI which) (ht : inI after) :
    CallsV Try.prog 9 #[.int .i64 n, v, .int .i64 which, .int .i64 after] w0 (.bool true) := by
  have S := St.start w0
  have hcn := cntI_range n
  have hml := madeA_len n xs
  have hvd := madeA_valid n xs
  obtain ⟨A0, c0, rfl⟩ := hr.len
  have hn' := hn
  unfold inI at hn' hw ht
  refine CallsV.mk ?_
  refine calls_enter Try.func9 rfl (by intro _ h; first | exact nomatch h.1 | (obtain ⟨_, h, _⟩ := h; exact nomatch h)) Try.ntmps9 rfl ?_
  repeat' (first | refine WP_seq ?_ | refine WP_region ?_ | refine wl_nil ?_ | refine then_normal ?_ | refine WP_skip ?_ | refine WP_condF rfl ?_ | (refine g_move ?_; refine st_move rfl ?_) | (refine g_assign ?_; refine st_assign rfl ?_) | (refine g_un ?_; refine st_val rfl (r_not rfl) ?_) | (refine g_callV ?_; (refine st_callV rfl (r_call0 rfl) (sane_spec) ?_; intro w hb; replace S := S.grow hb; clear hb)))
  refine st_callR rfl (r_call2 rfl rfl rfl) (made_run hn (hr.mono S.below) hx hl) ?_
  rintro vl w hb hrow
  replace S := S.new hb hrow
  clear hb hrow
  have hmade : ∀ j : Nat, j < (madeA n xs).length → (nth (madeA n xs) (j : Int)).At ≤ 2000000 := fun j h => by
    rw [madeA_nth h]
    rw [hml] at h
    have := atC_bound xs (j + 1)
    show atC xs (j + 1) ≤ 2000000; omega
  generalize madeA n xs = l at *
  have h20 : l.length ≤ 20 := by omega
  have hat := fun j (hj : j < l.length) => (valid_el hvd hj).2.1.2
  obtain ⟨Al, cl, hvl⟩ := (S.rdRow (D := fGAppearance) (i := 0) rfl).len
  subst hvl
  have oneA : ∀ (x : GAppearance), ∀ u ∈ fGAppearance.enc x, u.oneCell' = true := by
    intro x u hu; simp [fGAppearance, GAppearance.enc] at hu; rcases hu with rfl | rfl | rfl | rfl <;> rfl
  by_cases hl0 : l.length = 0
  · repeat' (first | refine WP_seq ?_ | refine WP_region ?_ | refine wl_nil ?_ | refine then_normal ?_ | refine then_ret ?_ | refine WP_ret ?_ | (refine g_move ?_; refine st_move rfl ?_) | (refine g_assign ?_; refine st_assign rfl ?_) | (refine g_b_eql ?_; refine st_val rfl (r_eql rfl rfl) ?_) | (refine g_c_len ?_; refine st_val rfl (r_lenSlice rfl) ?_) | (refine g_callV ?_; (refine st_callV rfl (r_call1 rfl rfl) (count_spec (by omega) (by omega)) ?_; intro w hb; replace S := S.grow hb; clear hb)) | (refine WP_cond rfl (fun h => ?_) (fun h => ?_) <;> (fail_if_success (have hh : true = true := h)) <;> (fail_if_success (have hh : false = false := h)) <;> (try simp only [decide_eq_true_eq, decide_eq_false_iff_not, Bool.not_eq_true', Bool.not_eq_false', Int.not_lt, Int.not_le] at h) <;> (try (exfalso; omega))))
    exact end1 rfl rfl ⟨rfl, S.below⟩
  have hp := pickI_range (c := which) (n := (l.length : Int)) (by omega)
  repeat' (first | refine WP_seq ?_ | refine WP_region ?_ | refine wl_nil ?_ | refine then_normal ?_ | refine WP_skip ?_ | refine WP_block ?_ | (refine g_move ?_; refine st_move rfl ?_) | (refine g_assign ?_; refine st_assign rfl ?_) | (refine g_b_eql ?_; refine st_val rfl (r_eql rfl rfl) ?_) | (refine g_c_len ?_; refine st_val rfl (r_lenSlice rfl) ?_) | (refine g_callV ?_; first | (refine st_callV rfl (r_call1 rfl rfl) (count_spec (by omega) (by omega)) ?_; intro w hb; replace S := S.grow hb; clear hb) | (refine st_callV rfl (r_call2 rfl rfl rfl) (pick_spec (by omega) (by omega) (by omega)) ?_; intro w hb; replace S := S.grow hb; clear hb)) | (refine WP_cond rfl (fun h => ?_) (fun h => ?_) <;> (fail_if_success (have hh : true = true := h)) <;> (fail_if_success (have hh : false = false := h)) <;> (try simp only [decide_eq_true_eq, decide_eq_false_iff_not, Bool.not_eq_true', Bool.not_eq_false', Int.not_lt, Int.not_le] at h) <;> (try (exfalso; omega))))
  generalize pickI which (l.length : Int) = W at *
  replace S := (S.nilRow fGAppearance 49).front
  refine WP_loop (fun k σ w1 => ∃ (i : Nat) (vm : Value), Has σ [(3, .int .i64 after), (10, .slice Al l.length cl), (11, .int .i64 (cntI n)), (12, .int .i64 W), (13, vm), (14, .int .i64 (i : Int))] ∧ St w0 w1 [rowOb fGAppearance 49 vm (divD l W after i), rowOb fGAppearance 49 (.slice Al l.length cl) l] ∧ i ≤ l.length ∧ k = l.length - i) l.length ⟨0, _, ⟨rfl, rfl, rfl, rfl, rfl, rfl, trivial⟩, S, by omega, by omega⟩ ?_
  clear S
  rintro k σ w1 ⟨i, vm, hs', S, hi1, rfl⟩
  refine WP_has hs' ?_
  have hdl := divD_len l W after i
  have hdl2 : (divD l W after i).length ≤ i + 1 := by split at hdl <;> omega
  by_cases hi : i < l.length
  · obtain ⟨e1, e2, e3, e4, e5⟩ := valid_el hvd hi
    have hsucc : divD l W after (i + 1) = divD l W after i ++ cutD l W after i := rfl
    by_cases hcut : (i : Int) = W ∧ 1 < (nth l (i : Int)).Seconds
    · obtain ⟨hW, hS⟩ := hcut
      have hcd : cutD l W after i = [⟨(nth l (i : Int)).Candidate, 2 * (nth l (i : Int)).At, 1 + pickI after ((nth l (i : Int)).Seconds - 1), (nth l (i : Int)).Weight⟩, ⟨(nth l (i : Int)).Candidate, 2 * (nth l (i : Int)).At + 1, (nth l (i : Int)).Seconds - (1 + pickI after ((nth l (i : Int)).Seconds - 1)), (nth l (i : Int)).Weight⟩] := by unfold cutD; rw [if_pos ⟨hW, hS⟩]
      have hpp := pickI_range (c := after) (n := (nth l (i : Int)).Seconds - 1) (by omega)
      repeat' (first | refine WP_seq ?_ | refine WP_region ?_ | refine wl_nil ?_ | refine then_normal ?_ | refine WP_skip ?_ | refine WP_block ?_ | (refine g_move ?_; refine st_move rfl ?_) | (refine g_assign ?_; refine st_assign rfl ?_) | (refine g_pick ?_; refine st_pickT rfl rfl ?_) | (refine g_b_add ?_; (refine st_val rfl (r_addN rfl rfl ?_ ?_) ?_; (first | omega | (simp <;> omega)); (first | omega | (simp <;> omega)))) | (refine g_b_sub ?_; (refine st_val rfl (r_subN rfl rfl ?_ ?_) ?_; (first | omega | (simp <;> omega)); (first | omega | (simp <;> omega)))) | (refine g_b_mul ?_; (refine st_val rfl (r_mulN rfl rfl ?_ ?_) ?_; (first | omega | (simp <;> omega)); (first | omega | (simp <;> omega)))) | (refine g_b_eql ?_; refine st_val rfl (r_eql rfl rfl) ?_) | (refine g_b_lss ?_; refine st_val rfl (r_lss rfl rfl) ?_) | (refine g_b_gtr ?_; refine st_val rfl (r_gtr rfl rfl) ?_) | (refine g_build ?_; refine st_val rfl (bd49_0_1_2_3 rfl rfl rfl rfl) ?_) | (refine g_c_len ?_; refine st_val rfl (r_lenSlice rfl) ?_) | (refine g_fieldAddr ?_; refine st_val rfl (r_fieldAddrL rfl) ?_) | (refine g_indexAddr ?_; (refine st_val rfl (r_indexAddr (S.rdRow (D := fGAppearance) (i := 1) rfl) rfl rfl ?_ ?_) ?_; (first | omega | (simp <;> omega)); (first | omega | (simp <;> omega)))) | (refine g_load ?_; first | (refine st_val rfl (r_loadElem (S.rdRow (D := fGAppearance) (i := 1) rfl) rfl ?_ ?_) ?_; (first | omega | (simp <;> omega)); (first | omega | (simp <;> omega))) | refine st_val rfl (r_loadVar (i := 0) S rfl rfl rfl) ?_) | (refine g_callV ?_; (refine st_callV rfl (r_call2 rfl rfl rfl) (pick_spec (by omega) (by omega) (by omega)) ?_; intro w hb; replace S := S.grow hb; clear hb)) | (refine g_alloc ?_; refine st_valE rfl (r_alloc S) ?_; rintro _ w ⟨b, rfl, -, S'⟩; replace S := S'.front; clear S') | (refine g_store ?_; (refine st_skipE rfl (r_storeVar (i := 0) S rfl rfl rfl rfl (of_decide_eq_true rfl) (of_decide_eq_true rfl)) ?_; intro w S'; replace S := S'; clear S')) | (refine wl_split rfl rfl (fun h => ?_) (fun h => ?_) <;> (fail_if_success (have hh : true = true := h)) <;> (fail_if_success (have hh : false = false := h)) <;> (try simp only [decide_eq_true_eq, decide_eq_false_iff_not, Bool.not_eq_true', Bool.not_eq_false', Int.not_lt, Int.not_le] at h) <;> (try (exfalso; omega))) | (refine WP_cond rfl (fun h => ?_) (fun h => ?_) <;> (fail_if_success (have hh : true = true := h)) <;> (fail_if_success (have hh : false = false := h)) <;> (try simp only [decide_eq_true_eq, decide_eq_false_iff_not, Bool.not_eq_true', Bool.not_eq_false', Int.not_lt, Int.not_le] at h) <;> (try (exfalso; omega))))
      refine st_valE rfl (r_litF (D := fGAppearance) [⟨(nth l (i : Int)).Candidate, 2 * (nth l (i : Int)).At, 1 + pickI after ((nth l (i : Int)).Seconds - 1), (nth l (i : Int)).Weight⟩] (fun x => .agg x.enc.toArray) S rfl rfl (fun _ => rfl) rfl (by decide) (by decide)) ?_
      rintro _ w ⟨bl, rfl, -, -, S'⟩
      replace S := S'.front
      clear S'
      refine st_valE rfl (r_appendRd (i := 2) (D := fGAppearance) S rfl (S.rdRow (D := fGAppearance) (i := 0) rfl) rfl rfl rfl (by decide) oneA (by rw [List.length_singleton]; omega) (by rw [List.length_singleton]; omega)) ?_
      rintro v1 w ⟨_, S'⟩
      replace S := S'.keep [false, true, true, true]
      clear S'
      repeat' (first | refine WP_seq ?_ | refine WP_region ?_ | refine wl_nil ?_ | refine then_normal ?_ | (refine g_move ?_; refine st_move rfl ?_) | (refine g_assign ?_; refine st_assign rfl ?_) | (refine g_b_add ?_; (refine st_val rfl (r_addN rfl rfl ?_ ?_) ?_; (first | omega | (simp <;> omega)); (first | omega | (simp <;> omega)))) | (refine g_b_sub ?_; (refine st_val rfl (r_subN rfl rfl ?_ ?_) ?_; (first | omega | (simp <;> omega)); (first | omega | (simp <;> omega)))) | (refine g_fieldAddr ?_; refine st_val rfl (r_fieldAddrL rfl) ?_) | (refine g_load ?_; first | refine st_val rfl (r_loadVar (i := 0) S rfl rfl rfl) ?_ | refine st_val rfl (r_loadVarA (i := 0) S rfl rfl rfl rfl) ?_) | (refine g_store ?_; (refine st_skipE rfl (r_storeVar (i := 0) S rfl rfl rfl rfl (of_decide_eq_true rfl) (of_decide_eq_true rfl)) ?_; intro w S'; replace S := S'; clear S')))
      refine st_valE rfl (r_litF (D := fGAppearance) [⟨(nth l (i : Int)).Candidate, 2 * (nth l (i : Int)).At + 1, (nth l (i : Int)).Seconds - (1 + pickI after ((nth l (i : Int)).Seconds - 1)), (nth l (i : Int)).Weight⟩] (fun x => .agg x.enc.toArray) S rfl rfl (fun _ => rfl) rfl (by decide) (by decide)) ?_
      rintro _ w ⟨bl2, rfl, -, -, S'⟩
      replace S := S'.front
      clear S'
      refine st_valE rfl (r_appendRd (i := 2) (D := fGAppearance) S rfl (S.rdRow (D := fGAppearance) (i := 0) rfl) rfl rfl rfl (by decide) oneA (by rw [List.length_append, List.length_singleton, List.length_singleton]; omega) (by rw [List.length_append, List.length_singleton, List.length_singleton]; omega)) ?_
      rintro v2 w ⟨_, S'⟩
      replace S := S'.keep [false, false, true, true]
      clear S'
      repeat' (first | refine WP_region ?_ | refine wl_nil ?_ | refine then_normal ?_ | refine inB_normal ?_ | (refine g_move ?_; refine st_move rfl ?_) | (refine g_assign ?_; refine st_assign rfl ?_) | (refine g_b_add ?_; (refine st_val rfl (r_addN rfl rfl ?_ ?_) ?_; (first | omega | (simp <;> omega)); (first | omega | (simp <;> omega)))))
      refine ⟨⟨_, ?_, i + 1, v2, ⟨rfl, rfl, rfl, rfl, rfl, rfl, trivial⟩, by rw [hsucc, hcd, show ∀ (a b : GAppearance), divD l W after i ++ [a, b] = (divD l W after i ++ [a]) ++ [b] from fun a b => by simp]; exact S, by omega, rfl⟩⟩
      omega
    · have hcd : cutD l W after i = [⟨(nth l (i : Int)).Candidate, 2 * (nth l (i : Int)).At, (nth l (i : Int)).Seconds, (nth l (i : Int)).Weight⟩] := by unfold cutD; rw [if_neg hcut]
      repeat' (first | refine WP_seq ?_ | refine WP_region ?_ | refine wl_nil ?_ | refine then_normal ?_ | refine WP_skip ?_ | refine WP_block ?_ | refine WP_condF rfl ?_ | (refine g_guard ?_; refine st_off rfl ?_) | (refine g_move ?_; refine st_move rfl ?_) | (refine g_pick ?_; first | refine st_pickT rfl rfl ?_ | refine st_pickF rfl rfl ?_) | (refine g_b_mul ?_; (refine st_val rfl (r_mulN rfl rfl ?_ ?_) ?_; (first | omega | (simp <;> omega)); (first | omega | (simp <;> omega)))) | (refine g_b_eql ?_; refine st_val rfl (r_eql rfl rfl) ?_) | (refine g_b_lss ?_; refine st_val rfl (r_lss rfl rfl) ?_) | (refine g_b_gtr ?_; refine st_val rfl (r_gtr rfl rfl) ?_) | (refine g_c_len ?_; refine st_val rfl (r_lenSlice rfl) ?_) | (refine g_fieldAddr ?_; refine st_val rfl (r_fieldAddrL rfl) ?_) | (refine g_indexAddr ?_; (refine st_val rfl (r_indexAddr (S.rdRow (D := fGAppearance) (i := 1) rfl) rfl rfl ?_ ?_) ?_; (first | omega | (simp <;> omega)); (first | omega | (simp <;> omega)))) | (refine g_load ?_; first | (refine st_val rfl (r_loadElem (S.rdRow (D := fGAppearance) (i := 1) rfl) rfl ?_ ?_) ?_; (first | omega | (simp <;> omega)); (first | omega | (simp <;> omega))) | refine st_val rfl (r_loadVar (i := 0) S rfl rfl rfl) ?_ | refine st_val rfl (r_loadVarA (i := 0) S rfl rfl rfl rfl) ?_) | (refine g_alloc ?_; refine st_valE rfl (r_alloc S) ?_; rintro _ w ⟨b, rfl, -, S'⟩; replace S := S'.front; clear S') | (refine g_store ?_; (refine st_skipE rfl (r_storeVar (i := 0) S rfl rfl rfl rfl (of_decide_eq_true rfl) (of_decide_eq_true rfl)) ?_; intro w S'; replace S := S'; clear S')) | (refine wl_split rfl rfl (fun h => ?_) (fun h => ?_) <;> (fail_if_success (have hh : true = true := h)) <;> (fail_if_success (have hh : false = false := h)) <;> (try simp only [decide_eq_true_eq, decide_eq_false_iff_not, Bool.not_eq_true', Bool.not_eq_false', Int.not_lt, Int.not_le] at h) <;> (try (exfalso; omega))) | (refine WP_cond rfl (fun h => ?_) (fun h => ?_) <;> (fail_if_success (have hh : true = true := h)) <;> (fail_if_success (have hh : false = false := h)) <;> (try simp only [decide_eq_true_eq, decide_eq_false_iff_not, Bool.not_eq_true', Bool.not_eq_false', Int.not_lt, Int.not_le] at h) <;> (try (exfalso; omega))))
      all_goals
        refine st_valE rfl (r_litF (D := fGAppearance) [⟨(nth l (i : Int)).Candidate, 2 * (nth l (i : Int)).At, (nth l (i : Int)).Seconds, (nth l (i : Int)).Weight⟩] (fun x => .agg x.enc.toArray) S rfl rfl (fun _ => rfl) rfl (by decide) (by decide)) ?_
        rintro _ w ⟨bl2, rfl, -, -, S'⟩
        replace S := S'.front
        clear S'
        refine st_valE rfl (r_appendRd (i := 2) (D := fGAppearance) S rfl (S.rdRow (D := fGAppearance) (i := 0) rfl) rfl rfl rfl (by decide) oneA (by rw [List.length_singleton]; omega) (by rw [List.length_singleton]; omega)) ?_
        rintro v2 w ⟨_, S'⟩
        replace S := S'.keep [false, false, true, true]
        clear S'
        repeat' (first | refine WP_region ?_ | refine wl_nil ?_ | refine then_normal ?_ | refine inB_normal ?_ | (refine g_move ?_; refine st_move rfl ?_) | (refine g_assign ?_; refine st_assign rfl ?_) | (refine g_b_add ?_; (refine st_val rfl (r_addN rfl rfl ?_ ?_) ?_; (first | omega | (simp <;> omega)); (first | omega | (simp <;> omega)))))
        refine ⟨⟨_, ?_, i + 1, v2, ⟨rfl, rfl, rfl, rfl, rfl, rfl, trivial⟩, by rw [hsucc, hcd]; exact S, by omega, rfl⟩⟩
        omega
  · have ei : i = l.length := by omega
    subst ei
    have hvD := divD_valid (W := W) (af := after) hvd h20 hmade
    have htc : ∀ k : Int, ctot k (divD l W after l.length) = ctot k l := fun k => by rw [divD_tot l W after k l.length (Nat.le_refl _), List.take_length]
    have hatD := fun j (hj : j < (divD l W after l.length).length) => (valid_el hvD hj).2.1.2
    have hok : okA (cntI n) l 10000000 = true := okA_of hvd (by omega) (by omega)
    have hok2 : okA (cntI n) (divD l W after l.length) 10000000 = true := okA_of hvD (by omega) (by omega)
    have he := err_of hok
    have he2 := err_of hok2
    have hts := tot_same hok hok2 hat hatD (fun k _ => (htc k).symm)
    have hos := owe_same hok hok2 hts
    have htl := tot_len hok
    have hol := owe_len hok
    generalize divD l W after l.length = m at *
    generalize htt : totI (cntI n) l 10000000 = tt at *
    generalize hoo : oweI (cntI n) l 10000000 = oo at *
    repeat' (first | refine WP_seq ?_ | refine WP_region ?_ | refine wl_nil ?_ | refine then_normal ?_ | refine then_exit ?_ | refine inB_here ?_ | refine WP_exit ?_ | (refine g_move ?_; refine st_move rfl ?_) | (refine g_b_lss ?_; refine st_val rfl (r_lss rfl rfl) ?_) | (refine g_c_len ?_; refine st_val rfl (r_lenSlice rfl) ?_) | (refine WP_cond rfl (fun h => ?_) (fun h => ?_) <;> (fail_if_success (have hh : true = true := h)) <;> (fail_if_success (have hh : false = false := h)) <;> (try simp only [decide_eq_true_eq, decide_eq_false_iff_not, Bool.not_eq_true', Bool.not_eq_false', Int.not_lt, Int.not_le] at h) <;> (try (exfalso; omega))))
    refine st_callR rfl (r_call3 rfl rfl rfl rfl) (totals_is (by omega) (S.rdRow (D := fGAppearance) (i := 1) rfl) (by omega) htt he) ?_
    rintro _ w hb ⟨v1, rfl, hrow⟩
    replace S := S.new hb hrow
    clear hb hrow
    obtain ⟨A1, c1, hv1⟩ := (S.rdRow (D := fInt .i64) (i := 2) rfl).len
    subst hv1
    repeat' (first | refine WP_seq ?_ | refine WP_region ?_ | refine wl_nil ?_ | refine then_normal ?_ | (refine g_move ?_; refine st_move rfl ?_) | (refine g_assign ?_; refine st_assign rfl ?_) | (refine g_extract ?_; refine st_val rfl (r_extract rfl rfl) ?_))
    refine st_callR rfl (r_call3 rfl rfl rfl rfl) (totals_is (by omega) (S.rdRow (D := fGAppearance) (i := 0) rfl) (by omega) hts.symm he2) ?_
    rintro _ w hb ⟨v2, rfl, hrow⟩
    replace S := S.new hb hrow
    clear hb hrow
    repeat' (first | refine WP_seq ?_ | refine WP_region ?_ | refine wl_nil ?_ | refine then_normal ?_ | (refine g_move ?_; refine st_move rfl ?_) | (refine g_assign ?_; refine st_assign rfl ?_) | (refine g_extract ?_; refine st_val rfl (r_extract rfl rfl) ?_))
    refine st_callR rfl (r_call3 rfl rfl rfl rfl) (owed_is (by omega) (S.rdRow (D := fGAppearance) (i := 1) rfl) (by omega) hoo he) ?_
    rintro _ w hb ⟨v3, rfl, hrow⟩
    replace S := S.new hb hrow
    clear hb hrow
    repeat' (first | refine WP_seq ?_ | refine WP_region ?_ | refine wl_nil ?_ | refine then_normal ?_ | (refine g_move ?_; refine st_move rfl ?_) | (refine g_assign ?_; refine st_assign rfl ?_) | (refine g_extract ?_; refine st_val rfl (r_extract rfl rfl) ?_))
    refine st_callR rfl (r_call3 rfl rfl rfl rfl) (owed_is (by omega) (S.rdRow (D := fGAppearance) (i := 0) rfl) (by omega) hos.symm he2) ?_
    rintro _ w hb ⟨v4, rfl, hrow⟩
    replace S := S.new hb hrow
    clear hb hrow
    repeat' (first | refine WP_seq ?_ | refine WP_region ?_ | refine wl_nil ?_ | refine then_normal ?_ | refine WP_ret ?_ | (refine g_move ?_; refine st_move rfl ?_) | (refine g_assign ?_; refine st_assign rfl ?_) | (refine g_pick ?_; refine st_pickT rfl rfl ?_) | (refine g_b_eql ?_; refine st_val rfl (r_eql rfl rfl) ?_) | (refine g_extract ?_; refine st_val rfl (r_extract rfl rfl) ?_) | (refine g_c_len ?_; refine st_val rfl (r_lenSlice rfl) ?_) | (refine g_callV ?_; first | (refine st_callV rfl (r_call2 rfl rfl rfl) (ints_is (S.rdRow (D := fInt .i64) (i := 2) rfl) (S.rdRow (D := fInt .i64) (i := 3) rfl) (by omega) (by omega) (decide_eq_true rfl)) ?_; intro w hb; replace S := S.grow hb; clear hb) | (refine st_callV rfl (r_call2 rfl rfl rfl) (ints_is (S.rdRow (D := fInt .i64) (i := 4) rfl) (S.rdRow (D := fInt .i64) (i := 5) rfl) (by omega) (by omega) (decide_eq_true rfl)) ?_; intro w hb; replace S := S.grow hb; clear hb)) | (refine wl_split rfl rfl (fun h => ?_) (fun h => ?_) <;> (fail_if_success (have hh : true = true := h)) <;> (fail_if_success (have hh : false = false := h)) <;> (try simp only [decide_eq_true_eq, decide_eq_false_iff_not, Bool.not_eq_true', Bool.not_eq_false', Int.not_lt, Int.not_le] at h) <;> (try (exfalso; omega))))
    exact end1 rfl rfl ⟨rfl, S.below⟩
end Go.Proofs.Ytcbidfedffegpaa
