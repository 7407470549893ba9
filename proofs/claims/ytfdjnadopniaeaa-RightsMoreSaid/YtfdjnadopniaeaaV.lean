import Derived.Test.YtfdjnadopniaeaaU
import Derived.Test.YtfdjnadopniaeaaGxRange
import Derived.Test.YtfdjnadopniaeaaGxKeep
namespace Go.Proofs.Ytfdjnadopniaeaa
open Go Go.Gx Go.RowKit
open Kuhn
set_option linter.unusedVariables false
set_option linter.unusedSimpArgs false

theorem indexFuncI_spec {g : FuncId} [Enters Try.prog g] {cl : List Value} {p : Int → Bool} {v : Value} {l : List Int} {w : World} (hr : Rd (fInt .i64).ty w v l) (hl : l.length ≤ 1000000000)
    (hp : ∀ x ∈ l, ∀ w', Below w.heap.size w w' → CallsV Try.prog g (.int .i64 x :: cl).toArray w' (.bool (p x))) :
    CallsV Try.prog 57 #[v, .func (.func g) #[] cl.toArray] w (.int .i64 (idxF p l)) := by
  have S := St.start w
  obtain ⟨A, c, rfl⟩ := hr.len
  refine CallsV.mk ?_
  refine calls_enter Try.func57 rfl (by intro _ h; first | exact nomatch h.1 | (obtain ⟨_, h, _⟩ := h; exact nomatch h)) Try.ntmps57 rfl ?_
  repeat' (first | refine WP_seq ?_ | refine WP_region ?_ | refine wl_nil ?_ | refine then_normal ?_ | refine WP_block ?_ | (refine g_move ?_; refine st_move rfl ?_) | (refine g_assign ?_; refine st_assign rfl ?_) | (refine g_c_len ?_; refine st_val rfl (r_lenSlice rfl) ?_))
  refine WP_loop (fun k σ w1 => ∃ i : Int, Has σ [(0, .slice A l.length c), (1, .func (.func g) #[] cl.toArray), (7, .int .i64 l.length), (8, .int .i64 i)] ∧ St w w1 [] ∧ 0 ≤ i ∧ i ≤ l.length ∧ k = l.length - i.toNat ∧ ∀ j, j < i.toNat → ∀ x, l[j]? = some x → p x = false) l.length ⟨0, ⟨rfl, rfl, rfl, rfl, trivial⟩, S, by omega, by omega, by omega, fun j hj => by omega⟩ ?_
  rintro k σ w1 ⟨i, hs, S, hi0, hi1, rfl, hnone⟩
  refine WP_has hs ?_
  by_cases hi : i < l.length
  · have hm := nth_mem hi0 hi
    repeat' (first | refine WP_seq ?_ | refine WP_region ?_ | refine wl_nil ?_ | refine then_normal ?_ | refine inB_normal ?_ | refine then_ret ?_ | refine inB_ret ?_ | refine WP_ret ?_ | refine WP_skip ?_ | refine WP_block ?_ | (refine g_move ?_; refine st_move rfl ?_) | (refine g_assign ?_; refine st_assign rfl ?_) | (refine g_b_add ?_; (refine st_val rfl (r_addN rfl rfl ?_ ?_) ?_; (first | omega | (simp <;> omega)); (first | omega | (simp <;> omega)))) | (refine g_b_lss ?_; refine st_val rfl (r_lss rfl rfl) ?_) | (refine g_indexAddr ?_; (refine st_val rfl (r_indexAddr (hr.mono S.below) rfl rfl ?_ ?_) ?_; (first | omega | (simp <;> omega)); (first | omega | (simp <;> omega)))) | (refine g_load ?_; (refine st_val rfl (r_loadElem1 (hr.mono S.below) rfl ?_ ?_ rfl) ?_; (first | omega | (simp <;> omega)); (first | omega | (simp <;> omega)))) | (refine g_callV ?_; (refine st_callV rfl (r_call1 rfl rfl) ((hp _ hm _ S.below)) ?_; intro w hb; replace S := S.grow hb; clear hb)) | (refine WP_cond rfl (fun h => ?_) (fun h => ?_) <;> (fail_if_success (have hh : true = true := h)) <;> (fail_if_success (have hh : false = false := h)) <;> (try simp only [decide_eq_true_eq, decide_eq_false_iff_not, Bool.not_eq_true', Bool.not_eq_false', Int.not_lt, Int.not_le] at h) <;> (try (exfalso; omega))))
    · refine end1 rfl rfl ⟨ri ?_, S.below⟩
      exact (idxF_hit hnone (nth_get (by omega) (by omega)) h (by omega)).symm
    · refine nextI.mk ⟨_, ?_, i + 1, ⟨rfl, rfl, rfl, rfl, trivial⟩, S, by omega, by omega, rfl, fun j hj x hx => ?_⟩
      · omega
      · by_cases e : j = i.toNat
        · subst e; rw [nth_get (by omega) (by omega)] at hx; cases hx; exact h
        · exact hnone j (by omega) x hx
  · repeat' (first | refine WP_seq ?_ | refine WP_region ?_ | refine wl_nil ?_ | refine then_normal ?_ | refine then_exit ?_ | refine inB_here ?_ | refine WP_ret ?_ | refine WP_exit ?_ | (refine g_assign ?_; refine st_assign rfl ?_) | (refine g_b_lss ?_; refine st_val rfl (r_lss rfl rfl) ?_) | (refine WP_cond rfl (fun h => ?_) (fun h => ?_) <;> (fail_if_success (have hh : true = true := h)) <;> (fail_if_success (have hh : false = false := h)) <;> (try simp only [decide_eq_true_eq, decide_eq_false_iff_not, Bool.not_eq_true', Bool.not_eq_false', Int.not_lt, Int.not_le] at h) <;> (try (exfalso; omega))))
    refine end1 rfl rfl ⟨ri ?_, S.below⟩
    exact (idxF_none fun x hx => by
      obtain ⟨j, hj⟩ := List.getElem?_of_mem hx
      exact hnone j (by have := List.getElem?_eq_some_iff.1 hj; obtain ⟨hlt, _⟩ := this; omega) x hj).symm
theorem containsFuncI_spec {g : FuncId} [Enters Try.prog g] {cl : List Value} {p : Int → Bool} {v : Value} {l : List Int} {w : World} (hr : Rd (fInt .i64).ty w v l) (hl : l.length ≤ 1000000000)
    (hp : ∀ x ∈ l, ∀ w', Below w.heap.size w w' → CallsV Try.prog g (.int .i64 x :: cl).toArray w' (.bool (p x))) :
    CallsV Try.prog 45 #[v, .func (.func g) #[] cl.toArray] w (.bool (l.any p)) := by
  have S := St.start w
  refine CallsV.mk ?_
  refine calls_enter Try.func45 rfl (by intro _ h; first | exact nomatch h.1 | (obtain ⟨_, h, _⟩ := h; exact nomatch h)) Try.ntmps45 rfl ?_
  repeat' (first | refine WP_seq ?_ | refine WP_region ?_ | refine wl_nil ?_ | refine then_normal ?_ | refine WP_ret ?_ | (refine g_move ?_; refine st_move rfl ?_) | (refine g_assign ?_; refine st_assign rfl ?_) | (refine g_b_geq ?_; refine st_val rfl (r_geq rfl rfl) ?_) | (refine g_callV ?_; (refine st_callV rfl (r_call2 rfl rfl rfl) (indexFuncI_spec (hr.mono S.below) hl (fun x hx w' hb => hp x hx w' (S.below.trans (hb.mono S.below.size)))) ?_; intro w hb; replace S := S.grow hb; clear hb)))
  all_goals (refine end1 rfl rfl ⟨rb ?_, S.below⟩; rw [idxF_any])

theorem cloneI_run {v : Value} {l : List Int} {w0 : World} (hr : Rd (fInt .i64).ty w0 v l) (hl : l.length ≤ 1000000) : CallsR Try.prog 56 #[v] w0 fun v' w' => NewRow (fInt .i64) 3 w0 w' v' l := by
  have S := St.start w0
  obtain ⟨A0, c, rfl⟩ := hr.len
  refine CallsR.mk ?_
  refine calls_enter Try.func56 rfl (by intro _ h; first | exact nomatch h.1 | (obtain ⟨_, h, _⟩ := h; exact nomatch h)) Try.ntmps56 rfl ?_
  cases A0 with
  | none =>
    have hl0 : l = [] := by
      obtain ⟨A1, c1, e, _, h⟩ := hr
      cases e
      rcases h with h | ⟨a, e, _⟩
      · exact h.1
      · cases e
    subst hl0
    repeat' (first | refine WP_seq ?_ | refine WP_region ?_ | refine wl_nil ?_ | refine then_normal ?_ | refine then_ret ?_ | refine WP_ret ?_ | refine WP_condT rfl ?_ | (refine g_move ?_; refine st_move rfl ?_) | (refine g_assign ?_; refine st_assign rfl ?_) | (refine g_b_eql ?_; refine st_val rfl (r_eqlNil rfl rfl) ?_))
    exact end1 rfl rfl ⟨_, rfl, S.below, NewRow.nil _ _ _ _⟩
  | some a0 =>
    repeat' (first | refine WP_seq ?_ | refine WP_region ?_ | refine wl_nil ?_ | refine then_normal ?_ | refine WP_skip ?_ | refine WP_condF rfl ?_ | (refine g_move ?_; refine st_move rfl ?_) | (refine g_assign ?_; refine st_assign rfl ?_) | (refine g_b_eql ?_; refine st_val rfl (r_eqlNil rfl rfl) ?_))
    refine st_valE rfl (r_lit0 (D := fInt .i64) S) ?_
    rintro vn w ⟨-, S'⟩; replace S := S'; clear S'
    repeat' ((refine g_move ?_; refine st_move rfl ?_))
    refine st_valE rfl (r_appendRd (D := fInt .i64) (i := 0) S rfl (hr.mono S.below) rfl rfl rfl (by decide) oneI (by simp; omega) (by simp; omega)) ?_
    rintro va' w ⟨-, S'⟩; replace S := S'; clear S'
    repeat' (first | refine wl_nil ?_ | refine then_normal ?_ | refine WP_ret ?_ | (refine g_assign ?_; refine st_assign rfl ?_))
    exact end1 rfl rfl ⟨_, rfl, S.below, S.row (i := 0) rfl⟩

theorem lack1_spec {b10 b3 : Nat} {g : GGrant} {us : List GUse} {vu : Value} {x : Int} {w0 : World} (h10 : CellsAt w0 ⟨b10, 0, none⟩ g.enc) (h3 : CellsAt w0 ⟨b3, 0, none⟩ [vu]) (hr2 : Rd fGUse.ty w0 vu us) (hg : okG g = true) (hu : validU us = true) (h0 : 0 ≤ x) (hx : x < us.length) :
    CallsV Try.prog 46 #[.int .i64 x, ptr b10, ptr b3] w0 (.bool (permG g (nth us x))) := by
  have S := St.start w0
  have hU := okU_of hu _ (nth_mem h0 hx)
  refine CallsV.mk ?_
  refine calls_enter Try.func46 rfl (by intro _ h; first | exact nomatch h.1 | (obtain ⟨_, h, _⟩ := h; exact nomatch h)) Try.ntmps46 rfl ?_
  repeat' (first | refine WP_seq ?_ | refine WP_region ?_ | refine wl_nil ?_ | refine then_normal ?_ | refine WP_ret ?_ | refine WP_draw (by kernel_rfl) (by kernel_rfl) ?_ | (refine ql_nil ?_; intro w hb; replace S := S.grow hb; clear hb) | (refine g_assign ?_; refine st_assign rfl ?_) | (refine gq_move ?_; refine q_move rfl ?_) | (refine gq_assign ?_; refine q_assign rfl ?_) | (refine gq_indexAddr ?_; (refine q_val rfl (fun w' hb => r_indexAddr (hr2.mono (S.grow hb).below) rfl rfl ?_ ?_) ?_; (first | omega | (simp <;> omega)); (first | omega | (simp <;> omega)))) | (refine gq_load ?_; first | refine q_val rfl (fun w' hb => r_loadA rfl rfl (h10.mono (S.grow hb).below)) ?_ | refine q_val rfl (fun w' hb => r_loadAt (h3.mono (S.grow hb).below) rfl rfl) ?_ | (refine q_val rfl (fun w' hb => r_loadElem (hr2.mono (S.grow hb).below) rfl ?_ ?_) ?_; (first | omega | (simp <;> omega)); (first | omega | (simp <;> omega)))) | (refine gq_callV ?_; refine q_callV rfl (fun w' hb => r_call2 rfl rfl rfl) (fun w' hb => permits_spec hg hU) ?_))
  exact end1 rfl rfl ⟨rfl, S.below⟩
theorem sets_run {n k : Int} {w0 : World} : CallsR Try.prog 44 #[.int .i64 n, .int .i64 k] w0 fun v' w' => ∃ bn bk, v' = .func (.func 54) #[] [ptr bk, ptr bn].toArray ∧ St w0 w' [.var bn 3 [.int .i64 n], .var bk 3 [.int .i64 k]] := by
  have S := St.start w0
  refine CallsR.mk ?_
  refine calls_enter Try.func44 rfl (by intro _ h; first | exact nomatch h.1 | (obtain ⟨_, h, _⟩ := h; exact nomatch h)) Try.ntmps44 rfl ?_
  repeat' (first | refine WP_seq ?_ | refine WP_region ?_ | refine wl_nil ?_ | refine then_normal ?_ | refine WP_ret ?_ | (refine g_assign ?_; refine st_assign rfl ?_) | (refine g_makeFunc ?_; refine st_val rfl (r_makeFn2 rfl rfl) ?_) | (refine g_box ?_; refine st_valE rfl (r_box S rfl) ?_; rintro _ w ⟨b, rfl, -, S'⟩; replace S := S'; clear S'))
  exact end1 (v := .func (.func 54) #[] [ptr _, ptr _].toArray) rfl rfl ⟨_, rfl, S.below, _, _, rfl, S⟩
end Go.Proofs.Ytfdjnadopniaeaa
