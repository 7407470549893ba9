import Derived.Test.YtgphmhpcaeiglaaD
import Derived.Test.YtgphmhpcaeiglaaGxPerm
namespace Go.Proofs.Ytgphmhpcaeiglaa
open Go Go.Gx Go.RowKit
set_option linter.unusedVariables false
set_option linter.unusedSimpArgs false

theorem validC_spec {d : Int} {v : Value} {l : List GReading} {w0 : World} (hr : Rd fGReading.ty w0 v l) (hl : l.length ≤ maxLen) (hd : inI d) :
    CallsV Try.prog 16 #[.agg #[.int .i64 d, v]] w0 (.bool (validC d l)) := by
  have S := St.start w0
  simp only [maxLen] at hl
  obtain ⟨A, c, rfl⟩ := hr.len
  refine CallsV.mk ?_
  refine calls_enter Try.func16 rfl Try.ntmps16 rfl ?_
  repeat' (first | refine WP_seq ?_ | refine WP_region ?_ | refine wl_nil ?_ | refine then_normal ?_ | refine then_ret ?_ | refine WP_ret ?_ | refine WP_skip ?_ | refine WP_block ?_ | refine WP_condT rfl ?_ | (refine g_guard ?_; refine st_off rfl ?_) | (refine g_move ?_; refine st_move rfl ?_) | (refine g_assign ?_; refine st_assign rfl ?_) | (refine g_pick ?_; first | refine st_pickT rfl rfl ?_ | refine st_pickF rfl rfl ?_) | (refine g_b_lss ?_; refine st_val rfl (r_lss rfl rfl) ?_) | (refine g_b_gtr ?_; refine st_val rfl (r_gtr rfl rfl) ?_) | (refine g_c_len ?_; refine st_val rfl (r_lenSlice rfl) ?_) | (refine g_fieldAddr ?_; refine st_val rfl (r_fieldAddrL rfl) ?_) | (refine g_load ?_; refine st_val rfl (r_loadVar (i := 0) S rfl rfl rfl) ?_) | (refine g_box ?_; refine st_valE rfl (r_box S rfl) ?_; rintro _ w ⟨b, rfl, -, S'⟩; replace S := S'; clear S') | (refine wl_split rfl rfl (fun h => ?_) (fun h => ?_) <;> (fail_if_success (have hh : true = true := h)) <;> (try simp only [decide_eq_true_eq, decide_eq_false_iff_not, Bool.not_eq_true', Bool.not_eq_false', Int.not_lt, Int.not_le] at h) <;> (try (exfalso; omega))) | (refine WP_cond rfl (fun h => ?_) (fun h => ?_) <;> (fail_if_success (have hh : true = true := h)) <;> (try simp only [decide_eq_true_eq, decide_eq_false_iff_not, Bool.not_eq_true', Bool.not_eq_false', Int.not_lt, Int.not_le] at h) <;> (try (exfalso; omega))))
  · refine end1 rfl rfl ⟨rb ?_, S.below⟩
    symm; unfold validC; rw [decide_eq_false (p := 0 ≤ d) (by omega)]; simp
  · refine end1 rfl rfl ⟨rb ?_, S.below⟩
    symm; unfold validC; rw [decide_eq_false (p := d ≤ 100) (by omega)]; simp
  · refine end1 rfl rfl ⟨rb ?_, S.below⟩
    symm; unfold validC; rw [decide_eq_false (p := l.length ≤ 12) (by omega)]; simp
  · refine WP_loop (fun k σ w1 => ∃ i z : Int, Has σ [(3, .int .i64 z), (21, .slice A l.length c), (22, .int .i64 l.length), (23, .int .i64 i)] ∧ St w0 w1 [] ∧ 0 ≤ i ∧ i ≤ l.length ∧ k = l.length - i.toNat ∧ sortedC (-1) l = sortedC z (l.drop i.toNat)) l.length ⟨0, -1, ⟨rfl, rfl, rfl, rfl, trivial⟩, S.keep [], by omega, by omega, by omega, rfl⟩ ?_
    clear S
    rintro k σ w1 ⟨i, z, hs, S, a0, a1, rfl, hv⟩
    refine WP_has hs ?_
    repeat' (first | refine WP_seq ?_ | refine WP_region ?_ | refine wl_nil ?_ | refine then_normal ?_ | refine inB_normal ?_ | refine then_exit ?_ | refine inB_here ?_ | refine then_ret ?_ | refine inB_ret ?_ | refine WP_ret ?_ | refine WP_skip ?_ | refine WP_exit ?_ | refine WP_block ?_ | refine WP_condT rfl ?_ | (refine g_guard ?_; refine st_off rfl ?_) | (refine g_move ?_; refine st_move rfl ?_) | (refine g_assign ?_; refine st_assign rfl ?_) | (refine g_pick ?_; first | refine st_pickT rfl rfl ?_ | refine st_pickF rfl rfl ?_) | (refine g_b_add ?_; (refine st_val rfl (r_addN rfl rfl ?_ ?_) ?_; (first | omega | (simp <;> omega)); (first | omega | (simp <;> omega)))) | (refine g_b_lss ?_; refine st_val rfl (r_lss rfl rfl) ?_) | (refine g_b_leq ?_; refine st_val rfl (r_leq rfl rfl) ?_) | (refine g_b_gtr ?_; refine st_val rfl (r_gtr rfl rfl) ?_) | (refine g_fieldAddr ?_; refine st_val rfl (r_fieldAddrL rfl) ?_) | (refine g_indexAddr ?_; (refine st_val rfl (r_indexAddr (hr.mono S.below) rfl rfl ?_ ?_) ?_; (first | omega | (simp <;> omega)); (first | omega | (simp <;> omega)))) | (refine g_load ?_; first | (refine st_val rfl (r_loadElem (hr.mono S.below) rfl ?_ ?_) ?_; (first | omega | (simp <;> omega)); (first | omega | (simp <;> omega))) | refine st_val rfl (r_loadVar (i := 0) S rfl rfl rfl) ?_) | (refine g_alloc ?_; refine st_valE rfl (r_alloc S) ?_; rintro _ w ⟨b, rfl, -, S'⟩; replace S := S'; clear S') | (refine g_store ?_; first | (refine st_skipE rfl (r_storeVar (i := 0) S rfl rfl rfl rfl (of_decide_eq_true rfl) (of_decide_eq_true rfl)) ?_; intro w S'; replace S := S'; clear S') | (refine st_skipE rfl (r_storeVar (i := 1) S rfl rfl rfl rfl (of_decide_eq_true rfl) (of_decide_eq_true rfl)) ?_; intro w S'; replace S := S'; clear S') | (refine st_skipE rfl (r_storeVar (i := 2) S rfl rfl rfl rfl (of_decide_eq_true rfl) (of_decide_eq_true rfl)) ?_; intro w S'; replace S := S'; clear S')) | (refine wl_split rfl rfl (fun h => ?_) (fun h => ?_) <;> (fail_if_success (have hh : true = true := h)) <;> (try simp only [decide_eq_true_eq, decide_eq_false_iff_not, Bool.not_eq_true', Bool.not_eq_false', Int.not_lt, Int.not_le] at h) <;> (try (exfalso; omega))) | (refine WP_cond rfl (fun h => ?_) (fun h => ?_) <;> (fail_if_success (have hh : true = true := h)) <;> (try simp only [decide_eq_true_eq, decide_eq_false_iff_not, Bool.not_eq_true', Bool.not_eq_false', Int.not_lt, Int.not_le] at h) <;> (try (exfalso; omega))))
    all_goals first
      | (refine end1 rfl rfl ⟨rb ?_, S.below⟩; exact (sortedC_bad (by omega) (by omega) hv (by omega) d).symm)
      | (refine end1 rfl rfl ⟨rb ?_, S.below⟩; exact (validC_end (by omega) (by omega) (by omega) hv (by omega) (by omega) (by omega)).symm)
      | (refine ⟨⟨_, ?_, i + 1, (nth l i).Local, ⟨rfl, rfl, rfl, rfl, trivial⟩, S.keep [], by omega, by omega, rfl, sortedC_good (by omega) (by omega) hv (by omega)⟩⟩; omega)

theorem get_set {os : List Ob} {i : Nat} {o o' : Ob} (h : os[i]? = some o) : (os.set i o')[i]? = some o' := by
  have := (List.getElem?_eq_some_iff.1 h).1
  simp [this]
theorem narrow_spec {b T i : Nat} {low high x y : Int} {w0 w : World} {os : List Ob} (S : St w0 w os) (hi : os[i]? = some (.var b T [.int .i64 low, .int .i64 high])) :
    CallsW Try.prog 44 #[.pointer (some ⟨b, 0, none⟩), .int .i64 x, .int .i64 y] w (fun v w' => v = .tuple #[] ∧ St w0 w' (os.set i (.var b T [.int .i64 (max low x), .int .i64 (min high y)]))) := by
  refine CallsW.mk ?_
  refine calls_enter Try.func44 rfl Try.ntmps44 rfl ?_
  refine Pm.WP_drawPerm [0,1,2,3,4,5,6,7,8,9,10,11,12,14,15] [13] [16,17,18,19] (by kernel_rfl) (by kernel_rfl) (by kernel_rfl) ?_
  intro w' hb; replace S := S.grow hb; clear hb
  repeat' (first | (refine ql_nil ?_; intro w hb; replace S := S.grow hb; clear hb) | (refine gq_move ?_; refine q_move rfl ?_) | (refine gq_nilCheck ?_; refine q_val rfl (fun w' hb => r_nilCheck rfl) ?_) | (refine gq_c_max ?_; refine q_val rfl (fun w' hb => r_max2 rfl rfl) ?_) | (refine gq_fieldAddr ?_; refine q_val rfl (fun w' hb => r_fieldAddrL rfl) ?_) | (refine gq_load ?_; refine q_val rfl (fun w' hb => r_loadVar (S.grow hb) hi rfl rfl) ?_) | (refine Pm.qp_nil ?_; intro w hb; replace S := S.grow hb; clear hb) | refine Pm.qp_val rfl (fun w' => r_min2 rfl rfl) ?_)
  refine st_skipE rfl (r_storeVar S hi rfl rfl rfl (of_decide_eq_true rfl) (of_decide_eq_true rfl)) ?_
  intro w S'; replace S := S'; clear S'
  have hi2 := get_set hi (o' := .var b T [.int .i64 (max low x), .int .i64 high])
  repeat' (first | (refine g_nilCheck ?_; refine st_val rfl (r_nilCheck rfl) ?_) | (refine g_fieldAddr ?_; refine st_val rfl (r_fieldAddrL rfl) ?_))
  refine st_skipE rfl (r_storeVar S hi2 rfl rfl rfl (of_decide_eq_true rfl) (of_decide_eq_true rfl)) ?_
  intro w S'; replace S := S'; clear S'
  refine wl_nil ?_
  refine calm_normal ?_
  rw [List.set_set] at S
  exact end0 rfl ⟨_, rfl, rfl, S⟩

theorem around_spec {d x : Int} {v : Value} {l : List GReading} {w0 : World} (hr : Rd fGReading.ty w0 v l) (hc : OkC d l) (x0 : 0 ≤ x) (x1 : x ≤ 10000000) :
    CallsV Try.prog 35 #[.agg #[.int .i64 d, v], .int .i64 x] w0 (.agg #[.int .i64 (lowB d l x), .int .i64 (highB d l x)]) := by
  have S := St.start w0
  have d0 := hc.d0
  have d1 := hc.d1
  have hlen := hc.len
  obtain ⟨A, c, rfl⟩ := hr.len
  refine CallsV.mk ?_
  refine calls_enter Try.func35 rfl Try.ntmps35 rfl ?_
  repeat' (first | refine WP_seq ?_ | refine WP_region ?_ | refine wl_nil ?_ | refine then_normal ?_ | refine WP_block ?_ | (refine g_move ?_; refine st_move rfl ?_) | (refine g_assign ?_; refine st_assign rfl ?_) | (refine g_build ?_; refine st_val rfl (bd62_0_1 rfl rfl) ?_) | (refine g_c_len ?_; refine st_val rfl (r_lenSlice rfl) ?_) | (refine g_fieldAddr ?_; refine st_val rfl (r_fieldAddrL rfl) ?_) | (refine g_makeFunc ?_; refine st_val rfl (r_makeFnB1 rfl) ?_) | (refine g_load ?_; refine st_val rfl (r_loadVar (i := 0) S rfl rfl rfl) ?_) | (refine g_box ?_; refine st_valE rfl (r_box S rfl) ?_; rintro _ w ⟨b, rfl, -, S'⟩; replace S := S'; clear S') | (refine g_alloc ?_; refine st_valE rfl (r_alloc S) ?_; rintro _ w ⟨b, rfl, -, S'⟩; replace S := S'; clear S'))
  rename_i wa b2 wb b4
  refine WP_loop (fun k σ w1 => ∃ i : Int, Has σ [(1, .int .i64 x), (2, .pointer (some ⟨b2, 0, none⟩)), (4, .pointer (some ⟨b4, 0, none⟩)), (5, .pointer (some ⟨b, 0, none⟩)), (6, .func (.func 44) #[.pointer (some ⟨b, 0, none⟩)] #[]), (16, .slice A l.length c), (17, .int .i64 l.length), (18, .int .i64 i)] ∧ St w0 w1 [.var b2 24 [.int .i64 d, .slice A l.length c], .var b4 62 [.int .i64 0, .int .i64 0], .var b 62 [.int .i64 (lowB d (l.take i.toNat) x), .int .i64 (highB d (l.take i.toNat) x)]] ∧ 0 ≤ i ∧ i ≤ l.length ∧ k = l.length - i.toNat) l.length ⟨0, ⟨rfl, rfl, rfl, rfl, rfl, rfl, rfl, rfl, trivial⟩, S, by omega, by omega, by omega⟩ ?_
  clear S
  rintro k σ w1 ⟨i, hs, S, a0, a1, rfl⟩
  refine WP_has hs ?_
  by_cases hi : i < l.length
  · have hm := hc.mem _ (nth_mem a0 hi)
    have hlo := lowB_range (hc.take i.toNat) x0 x1
    have hhi := highB_range (hc.take i.toNat) x0 x1
    have lm := least_most (d := d) (n := max (x - (nth l i).Local) ((nth l i).Local - x)) d0 d1 (by omega) (by omega)
    repeat' (first | refine WP_seq ?_ | refine WP_region ?_ | refine wl_nil ?_ | refine then_normal ?_ | refine inB_normal ?_ | refine WP_skip ?_ | refine WP_block ?_ | (refine g_move ?_; refine st_move rfl ?_) | (refine g_assign ?_; refine st_assign rfl ?_) | (refine g_b_add ?_; (refine st_val rfl (r_addN rfl rfl ?_ ?_) ?_; (first | omega | (simp <;> omega)); (first | omega | (simp <;> omega)))) | (refine g_b_sub ?_; (refine st_val rfl (r_subN rfl rfl ?_ ?_) ?_; (first | omega | (simp <;> omega)); (first | omega | (simp <;> omega)))) | (refine g_b_eql ?_; refine st_val rfl (r_eql rfl rfl) ?_) | (refine g_b_lss ?_; refine st_val rfl (r_lss rfl rfl) ?_) | (refine g_un ?_; (refine st_val rfl (r_negN rfl ?_ ?_) ?_; (first | omega | (simp <;> omega)); (first | omega | (simp <;> omega)))) | (refine g_extract ?_; refine st_val rfl (r_extract rfl rfl) ?_) | (refine g_c_max ?_; refine st_val rfl (r_max2 rfl rfl) ?_) | (refine g_fieldAddr ?_; refine st_val rfl (r_fieldAddrL rfl) ?_) | (refine g_indexAddr ?_; (refine st_val rfl (r_indexAddr (hr.mono S.below) rfl rfl ?_ ?_) ?_; (first | omega | (simp <;> omega)); (first | omega | (simp <;> omega)))) | (refine g_load ?_; first | (refine st_val rfl (r_loadElem (hr.mono S.below) rfl ?_ ?_) ?_; (first | omega | (simp <;> omega)); (first | omega | (simp <;> omega))) | refine st_val rfl (r_loadVar (i := 0) S rfl rfl rfl) ?_ | refine st_val rfl (r_loadVar (i := 3) S rfl rfl rfl) ?_) | (refine g_callV ?_; (refine st_callV rfl (r_call2 rfl rfl rfl) (spread_spec) ?_; intro w hb; replace S := S.grow hb; clear hb)) | (refine g_alloc ?_; refine st_valE rfl (r_alloc S) ?_; rintro _ w ⟨b, rfl, -, S'⟩; replace S := S'; clear S') | (refine g_store ?_; first | (refine st_skipE rfl (r_storeVar (i := 0) S rfl rfl rfl rfl (of_decide_eq_true rfl) (of_decide_eq_true rfl)) ?_; intro w S'; replace S := S'; clear S') | (refine st_skipE rfl (r_storeVar (i := 1) S rfl rfl rfl rfl (of_decide_eq_true rfl) (of_decide_eq_true rfl)) ?_; intro w S'; replace S := S'; clear S') | (refine st_skipE rfl (r_storeVar (i := 2) S rfl rfl rfl rfl (of_decide_eq_true rfl) (of_decide_eq_true rfl)) ?_; intro w S'; replace S := S'; clear S') | (refine st_skipE rfl (r_storeVar (i := 3) S rfl rfl rfl rfl (of_decide_eq_true rfl) (of_decide_eq_true rfl)) ?_; intro w S'; replace S := S'; clear S') | (refine st_skipE rfl (r_storeVar (i := 4) S rfl rfl rfl rfl (of_decide_eq_true rfl) (of_decide_eq_true rfl)) ?_; intro w S'; replace S := S'; clear S')) | (refine WP_cond rfl (fun h => ?_) (fun h => ?_) <;> (fail_if_success (have hh : true = true := h)) <;> (try simp only [decide_eq_true_eq, decide_eq_false_iff_not, Bool.not_eq_true', Bool.not_eq_false', Int.not_lt, Int.not_le] at h) <;> (try (exfalso; omega))))
    all_goals (refine st_callW rfl (r_callB2 rfl rfl rfl) (narrow_spec S (i := 2) rfl) ?_; rintro _ w ⟨rfl, S'⟩; replace S := S'; clear S')
    all_goals repeat' (first | refine WP_region ?_ | refine wl_nil ?_ | refine then_normal ?_ | refine inB_normal ?_ | (refine g_move ?_; refine st_move rfl ?_) | (refine g_b_add ?_; (refine st_val rfl (r_addN rfl rfl ?_ ?_) ?_; (first | omega | (simp <;> omega)); (first | omega | (simp <;> omega)))))
    all_goals refine ⟨⟨_, ?_, i + 1, ⟨rfl, rfl, rfl, rfl, rfl, rfl, rfl, rfl, trivial⟩, ?_, by omega, by omega, rfl⟩⟩
    all_goals first
      | omega
      | (rw [take_snoc a0 hi, lowB_snoc, highB_snoc]; unfold lowOf highOf; first | (rw [if_pos (by omega), if_pos (by omega)]; have e0 : max (x - (nth l i).Local) ((nth l i).Local - x) = (nth l i).Local - x := (by omega); rw [e0] at S; exact S.keep [true, true, true, false]) | (rw [if_neg (by omega), if_pos (by omega), if_neg (by omega), show x - (nth l i).Local = 0 by omega]; have e0 : max (x - (nth l i).Local) ((nth l i).Local - x) = 0 := (by omega); rw [e0] at S; exact S.keep [true, true, true, false]) | (rw [if_neg (by omega), if_neg (by omega), if_neg (by omega)]; have e0 : max (x - (nth l i).Local) ((nth l i).Local - x) = x - (nth l i).Local := (by omega); rw [e0] at S; exact S.keep [true, true, true, false]) | trace_state)
  · repeat' (first | refine WP_seq ?_ | refine WP_region ?_ | refine wl_nil ?_ | refine then_normal ?_ | refine then_exit ?_ | refine inB_here ?_ | refine WP_ret ?_ | refine WP_exit ?_ | (refine g_move ?_; refine st_move rfl ?_) | (refine g_b_lss ?_; refine st_val rfl (r_lss rfl rfl) ?_) | (refine g_nilCheck ?_; refine st_val rfl (r_nilCheck rfl) ?_) | (refine g_load ?_; refine st_val rfl (r_loadVarA (i := 2) S rfl rfl rfl rfl) ?_) | (refine g_store ?_; first | (refine st_skipE rfl (r_storeVar (i := 0) S rfl rfl rfl rfl (of_decide_eq_true rfl) (of_decide_eq_true rfl)) ?_; intro w S'; replace S := S'; clear S') | (refine st_skipE rfl (r_storeVar (i := 1) S rfl rfl rfl rfl (of_decide_eq_true rfl) (of_decide_eq_true rfl)) ?_; intro w S'; replace S := S'; clear S') | (refine st_skipE rfl (r_storeVar (i := 2) S rfl rfl rfl rfl (of_decide_eq_true rfl) (of_decide_eq_true rfl)) ?_; intro w S'; replace S := S'; clear S')) | (refine WP_cond rfl (fun h => ?_) (fun h => ?_) <;> (fail_if_success (have hh : true = true := h)) <;> (try simp only [decide_eq_true_eq, decide_eq_false_iff_not, Bool.not_eq_true', Bool.not_eq_false', Int.not_lt, Int.not_le] at h) <;> (try (exfalso; omega))))
    refine endCellA rfl rfl S (i := 1) rfl rfl ⟨?_, S.below⟩
    rw [show i.toNat = l.length by omega, List.take_of_length_le (Nat.le_refl _)]; rfl
end Go.Proofs.Ytgphmhpcaeiglaa
