import Derived.Test.YtaoicaldhllbfaaC
import Derived.Test.YtaoicaldhllbfaaGxEnd
namespace Go.Proofs.Ytaoicaldhllbfaa
open Go Go.Gx Go.RowKit
set_option linter.unusedVariables false
set_option linter.unusedSimpArgs false

theorem ext_nth {α : Type} [Inhabited α] {l m : List α} (hl : l.length = m.length) (h : ∀ j : Int, 0 ≤ j → j < l.length → nth l j = nth m j) : l = m := by
  apply List.ext_getElem? 
  intro j
  by_cases hj : j < l.length
  · have h1 := nth_get (l := l) (i := j) (by omega) (by omega)
    have h2 := nth_get (l := m) (i := j) (by omega) (by omega)
    simp only [Int.toNat_natCast] at h1 h2
    rw [h1, h2, h j (by omega) (by omega)]
  · rw [List.getElem?_eq_none (by omega), List.getElem?_eq_none (by omega)]
theorem sameL_spec {v v2 : Value} {l m : List GLease} {w : World} (hr : Rd fGLease.ty w v l) (hr2 : Rd fGLease.ty w v2 m) (hl : l.length ≤ 1000000000) (hm : m.length ≤ 1000000000) :
    CallsV Try.prog 14 #[v, v2] w (.bool (decide (l = m))) := by
  have S := St.start w
  obtain ⟨A, c, rfl⟩ := hr.len
  obtain ⟨A2, c2, rfl⟩ := hr2.len
  refine CallsV.mk ?_
  refine calls_enter Try.func14 rfl Try.ntmps14 rfl ?_
  repeat' (first | refine WP_seq ?_ | refine WP_region ?_ | refine wl_nil ?_ | refine then_normal ?_ | refine then_ret ?_ | refine WP_ret ?_ | refine WP_skip ?_ | refine WP_block ?_ | (refine g_move ?_; refine st_move rfl ?_) | (refine g_assign ?_; refine st_assign rfl ?_) | (refine g_b_neq ?_; refine st_val rfl (r_neq rfl rfl) ?_) | (refine g_c_len ?_; refine st_val rfl (r_lenSlice rfl) ?_) | (refine WP_cond rfl (fun h => ?_) (fun h => ?_) <;> (fail_if_success (have hh : true = true := h)) <;> (try simp only [decide_eq_true_eq, decide_eq_false_iff_not, Bool.not_eq_true', Bool.not_eq_false', Int.not_lt, Int.not_le] at h) <;> (try (exfalso; omega))))
  · exact end1 rfl rfl ⟨rb (by rw [decide_eq_false]; rintro rfl; omega), S.below⟩
  refine WP_loop (fun k σ w1 => ∃ i : Int, Has σ [(0, .slice A l.length c), (1, .slice A2 m.length c2), (5, .int .i64 i)] ∧ St w w1 [] ∧ 0 ≤ i ∧ i ≤ l.length ∧ k = l.length - i.toNat ∧ ∀ j : Int, 0 ≤ j → j < i → nth l j = nth m j) l.length ⟨0, ⟨rfl, rfl, rfl, trivial⟩, S, by omega, by omega, by omega, fun j h0 h1 => by omega⟩ ?_
  rintro k σ w1 ⟨i, hs, S, hi0, hi1, rfl, hall⟩
  refine WP_has hs ?_
  repeat' (first | refine WP_seq ?_ | refine WP_region ?_ | refine wl_nil ?_ | refine then_normal ?_ | refine inB_normal ?_ | refine then_exit ?_ | refine inB_here ?_ | refine then_ret ?_ | refine inB_ret ?_ | refine WP_ret ?_ | refine WP_skip ?_ | refine WP_exit ?_ | refine WP_block ?_ | refine WP_draw (by kernel_rfl) (by kernel_rfl) ?_ | (refine ql_nil ?_; intro w hb; replace S := S.grow hb; clear hb) | (refine g_move ?_; refine st_move rfl ?_) | (refine g_assign ?_; refine st_assign rfl ?_) | (refine g_b_add ?_; (refine st_val rfl (r_addN rfl rfl ?_ ?_) ?_; (first | omega | (simp <;> omega)); (first | omega | (simp <;> omega)))) | (refine g_b_lss ?_; refine st_val rfl (r_lss rfl rfl) ?_) | (refine g_c_len ?_; refine st_val rfl (r_lenSlice rfl) ?_) | (refine gq_move ?_; refine q_move rfl ?_) | (refine gq_b_neq ?_; refine q_val rfl (fun w' hb => neq30 rfl rfl) ?_) | (refine gq_indexAddr ?_; first | (refine q_val rfl (fun w' hb => r_indexAddr (hr.mono (S.grow hb).below) rfl rfl ?_ ?_) ?_; (first | omega | (simp <;> omega)); (first | omega | (simp <;> omega))) | (refine q_val rfl (fun w' hb => r_indexAddr (hr2.mono (S.grow hb).below) rfl rfl ?_ ?_) ?_; (first | omega | (simp <;> omega)); (first | omega | (simp <;> omega)))) | (refine gq_load ?_; first | (refine q_val rfl (fun w' hb => r_loadElem (hr.mono (S.grow hb).below) rfl ?_ ?_) ?_; (first | omega | (simp <;> omega)); (first | omega | (simp <;> omega))) | (refine q_val rfl (fun w' hb => r_loadElem (hr2.mono (S.grow hb).below) rfl ?_ ?_) ?_; (first | omega | (simp <;> omega)); (first | omega | (simp <;> omega)))) | (refine WP_cond rfl (fun h => ?_) (fun h => ?_) <;> (fail_if_success (have hh : true = true := h)) <;> (try simp only [decide_eq_true_eq, decide_eq_false_iff_not, Bool.not_eq_true', Bool.not_eq_false', Int.not_lt, Int.not_le] at h) <;> (try (exfalso; omega))))
  · refine end1 rfl rfl ⟨rb ?_, S.below⟩
    symm; rw [decide_eq_false_iff_not]; rintro rfl
    simp at h
  · refine ⟨⟨_, ?_, i + 1, ⟨rfl, rfl, rfl, trivial⟩, S, by omega, by omega, rfl, fun j h0 h1 => ?_⟩⟩
    · omega
    · by_cases e : j = i
      · subst e; first | exact h | exact of_decide_eq_true h
      · exact hall j h0 (by omega)
  · refine end1 rfl rfl ⟨rb ?_, S.below⟩
    symm; rw [decide_eq_true_iff]
    exact ext_nth (by omega) fun j h0 h1 => hall j h0 (by omega)

def maxL {α : Type} [Inhabited α] (cf : α → α → Int) : List α → α
  | [] => default
  | a :: r => r.foldl (fun m x => if 0 < cf x m then x else m) a
theorem maxL_snoc {α : Type} [Inhabited α] {cf : α → α → Int} {l : List α} {i : Int} (h0 : 1 ≤ i) (h : i < l.length) : maxL cf (l.take (i + 1).toNat) = if 0 < cf (nth l i) (maxL cf (l.take i.toNat)) then nth l i else maxL cf (l.take i.toNat) := by
  rw [show (i + 1).toNat = i.toNat + 1 by omega, List.take_add_one, nth_get (by omega) h]
  cases l with
  | nil => simp at h; omega
  | cons a r =>
    obtain ⟨k, hk⟩ : ∃ k, i.toNat = k + 1 := ⟨i.toNat - 1, by omega⟩
    rw [hk, List.take_succ_cons]
    simp only [Option.toList_some, List.cons_append, maxL, List.foldl_append, List.foldl_cons, List.foldl_nil]
    rfl
theorem maxFuncL_spec {g : FuncId} [Enters Try.prog g] {cl : List Value} {cf : GLease → GLease → Int} {v : Value} {l : List GLease} {w : World} (hr : Rd fGLease.ty w v l) (hl : l.length ≤ 1000000000) (hpos : 0 < l.length)
    (hp : ∀ x y w', Below w.heap.size w w' → CallsV Try.prog g (.agg (GLease.enc x).toArray :: .agg (GLease.enc y).toArray :: cl).toArray w' (.int .i64 (cf x y))) :
    CallsV Try.prog 45 #[v, .func (.func g) #[] cl.toArray] w (.agg (maxL cf l).enc.toArray) := by
  have S := St.start w
  obtain ⟨A, c, rfl⟩ := hr.len
  refine CallsV.mk ?_
  refine calls_enter Try.func45 rfl Try.ntmps45 rfl ?_
  obtain ⟨w0, rfl⟩ : ∃ x, x = w := ⟨_, rfl⟩
  repeat' (first | refine WP_seq ?_ | refine WP_region ?_ | refine wl_nil ?_ | refine then_normal ?_ | refine WP_skip ?_ | refine WP_block ?_ | (refine g_move ?_; refine st_move rfl ?_) | (refine g_assign ?_; refine st_assign rfl ?_) | (refine g_b_lss ?_; refine st_val rfl (r_lss rfl rfl) ?_) | (refine g_c_len ?_; refine st_val rfl (r_lenSlice rfl) ?_) | (refine g_indexAddr ?_; (refine st_val rfl (r_indexAddr (hr.mono S.below) rfl rfl ?_ ?_) ?_; (first | omega | (simp <;> omega)); (first | omega | (simp <;> omega)))) | (refine g_load ?_; (refine st_val rfl (r_loadElem (hr.mono S.below) rfl ?_ ?_) ?_; (first | omega | (simp <;> omega)); (first | omega | (simp <;> omega)))) | (refine g_alloc ?_; refine st_valE rfl (r_alloc S) ?_; rintro _ w ⟨b, rfl, -, S'⟩; replace S := S'; clear S') | (refine g_store ?_; first | (refine st_skipE rfl (r_storeVar (i := 0) S rfl rfl rfl rfl (of_decide_eq_true rfl) (of_decide_eq_true rfl)) ?_; intro w S'; replace S := S'; clear S') | (refine st_skipE rfl (r_storeVar (i := 1) S rfl rfl rfl rfl (of_decide_eq_true rfl) (of_decide_eq_true rfl)) ?_; intro w S'; replace S := S'; clear S') | (refine st_skipE rfl (r_storeVar (i := 2) S rfl rfl rfl rfl (of_decide_eq_true rfl) (of_decide_eq_true rfl)) ?_; intro w S'; replace S := S'; clear S')) | (refine WP_cond rfl (fun h => ?_) (fun h => ?_) <;> (fail_if_success (have hh : true = true := h)) <;> (try simp only [decide_eq_true_eq, decide_eq_false_iff_not, Bool.not_eq_true', Bool.not_eq_false', Int.not_lt, Int.not_le] at h) <;> (try (exfalso; omega))))
  rename_i b0 _
  refine WP_loop (fun k σ w1 => ∃ i : Int, Has σ [(0, .slice A l.length c), (1, .func (.func g) #[] cl.toArray), (4, .pointer (some ⟨b0, 0, none⟩)), (5, .pointer (some ⟨b, 0, none⟩)), (6, .int .i64 i)] ∧ St w0 w1 [.var b0 30 (default : GLease).enc, .var b 30 (maxL cf (l.take i.toNat)).enc] ∧ 1 ≤ i ∧ i ≤ l.length ∧ k = l.length - i.toNat) (l.length - 1) ⟨1, ⟨rfl, rfl, rfl, rfl, rfl, trivial⟩, ?_, by omega, by omega, by omega⟩ ?_
  · cases l with
    | nil => simp at hpos
    | cons a r => exact S
  rintro k σ w1 ⟨i, hs, S, hi0, hi1, rfl⟩
  refine WP_has hs ?_
  repeat' (first | refine WP_seq ?_ | refine WP_region ?_ | refine wl_nil ?_ | refine then_normal ?_ | refine inB_normal ?_ | refine then_exit ?_ | refine inB_here ?_ | refine WP_ret ?_ | refine WP_skip ?_ | refine WP_exit ?_ | refine WP_block ?_ | refine WP_draw (by kernel_rfl) (by kernel_rfl) ?_ | (refine ql_nil ?_; intro w hb; replace S := S.grow hb; clear hb) | (refine g_move ?_; refine st_move rfl ?_) | (refine g_assign ?_; refine st_assign rfl ?_) | (refine g_b_add ?_; (refine st_val rfl (r_addN rfl rfl ?_ ?_) ?_; (first | omega | (simp <;> omega)); (first | omega | (simp <;> omega)))) | (refine g_b_lss ?_; refine st_val rfl (r_lss rfl rfl) ?_) | (refine g_c_len ?_; refine st_val rfl (r_lenSlice rfl) ?_) | (refine g_indexAddr ?_; (refine st_val rfl (r_indexAddr (hr.mono S.below) rfl rfl ?_ ?_) ?_; (first | omega | (simp <;> omega)); (first | omega | (simp <;> omega)))) | (refine g_load ?_; first | (refine st_val rfl (r_loadElem (hr.mono S.below) rfl ?_ ?_) ?_; (first | omega | (simp <;> omega)); (first | omega | (simp <;> omega))) | refine st_val rfl (r_loadVarA (i := 1) S rfl rfl rfl rfl) ?_) | (refine gq_move ?_; refine q_move rfl ?_) | (refine gq_b_gtr ?_; refine q_val rfl (fun w' hb => r_gtr rfl rfl) ?_) | (refine gq_indexAddr ?_; (refine q_val rfl (fun w' hb => r_indexAddr (hr.mono (S.grow hb).below) rfl rfl ?_ ?_) ?_; (first | omega | (simp <;> omega)); (first | omega | (simp <;> omega)))) | (refine gq_load ?_; first | (refine q_val rfl (fun w' hb => r_loadElem (hr.mono (S.grow hb).below) rfl ?_ ?_) ?_; (first | omega | (simp <;> omega)); (first | omega | (simp <;> omega))) | refine q_val rfl (fun w' hb => r_loadVarA (i := 1) (S.grow hb) rfl rfl rfl rfl) ?_) | (refine gq_callV ?_; refine q_callV rfl (fun w' hb => r_call2 rfl rfl rfl) (fun w' hb => (hp _ _ _ (S.grow hb).below)) ?_) | (refine g_store ?_; first | (refine st_skipE rfl (r_storeVar (i := 0) S rfl rfl rfl rfl (of_decide_eq_true rfl) (of_decide_eq_true rfl)) ?_; intro w S'; replace S := S'; clear S') | (refine st_skipE rfl (r_storeVar (i := 1) S rfl rfl rfl rfl (of_decide_eq_true rfl) (of_decide_eq_true rfl)) ?_; intro w S'; replace S := S'; clear S') | (refine st_skipE rfl (r_storeVar (i := 2) S rfl rfl rfl rfl (of_decide_eq_true rfl) (of_decide_eq_true rfl)) ?_; intro w S'; replace S := S'; clear S')) | (refine WP_cond rfl (fun h => ?_) (fun h => ?_) <;> (fail_if_success (have hh : true = true := h)) <;> (try simp only [decide_eq_true_eq, decide_eq_false_iff_not, Bool.not_eq_true', Bool.not_eq_false', Int.not_lt, Int.not_le] at h) <;> (try (exfalso; omega))))
  · refine ⟨⟨_, ?_, i + 1, ⟨rfl, rfl, rfl, rfl, rfl, trivial⟩, ?_, by omega, by omega, rfl⟩⟩
    · omega
    · rw [maxL_snoc hi0 (by omega), if_pos h]; exact S
  · refine ⟨⟨_, ?_, i + 1, ⟨rfl, rfl, rfl, rfl, rfl, trivial⟩, ?_, by omega, by omega, rfl⟩⟩
    · omega
    · rw [maxL_snoc hi0 (by omega), if_neg (by omega)]; exact S
  · refine endCellA rfl rfl S (i := 0) rfl rfl ⟨?_, S.below⟩
    have e : maxL cf (l.take i.toNat) = maxL cf l := by rw [List.take_of_length_le (by omega)]
    rw [← e]; rfl

end Go.Proofs.Ytaoicaldhllbfaa
