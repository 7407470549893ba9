import Derived.Test.YtaoicaldhllbfaaA
namespace Go.Proofs.Ytaoicaldhllbfaa
open Go Go.Gx Go.RowKit
set_option linter.unusedVariables false
set_option linter.unusedSimpArgs false

theorem isSortedFunc_spec {g : FuncId} [Enters Try.prog g] {cl : List Value} {cf : GRequest → GRequest → Int} {v : Value} {l : List GRequest} {w : World} {r : Bool} (hr : Rd fGRequest.ty w v l) (hl : l.length ≤ 1000000000)
    (hp : ∀ x y w', Below w.heap.size w w' → CallsV Try.prog g (.agg (GRequest.enc x).toArray :: .agg (GRequest.enc y).toArray :: cl).toArray w' (.int .i64 (cf x y)))
    (hrr : r = true ↔ ∀ j : Int, 0 ≤ j → j + 1 < l.length → ¬ cf (nth l (j + 1)) (nth l j) < 0) :
    CallsV Try.prog 34 #[v, .func (.func g) #[] cl.toArray] w (.bool r) := by
  have S := St.start w
  obtain ⟨A, c, rfl⟩ := hr.len
  refine CallsV.mk ?_
  refine calls_enter Try.func34 rfl Try.ntmps34 rfl ?_
  repeat' (first | refine WP_seq ?_ | refine WP_region ?_ | refine wl_nil ?_ | refine then_normal ?_ | refine WP_block ?_ | (refine g_move ?_; refine st_move rfl ?_) | (refine g_assign ?_; refine st_assign rfl ?_) | (refine g_b_sub ?_; (refine st_val rfl (r_subN rfl rfl ?_ ?_) ?_; (first | omega | (simp <;> omega)); (first | omega | (simp <;> omega)))) | (refine g_c_len ?_; refine st_val rfl (r_lenSlice rfl) ?_))
  refine WP_loop (fun k σ w1 => ∃ i : Int, Has σ [(0, .slice A l.length c), (1, .func (.func g) #[] cl.toArray), (5, .int .i64 i)] ∧ St w w1 [] ∧ -1 ≤ i ∧ i < l.length ∧ k = (i + 1).toNat ∧ ∀ j : Int, 0 ≤ j → i ≤ j → j + 1 < l.length → ¬ cf (nth l (j + 1)) (nth l j) < 0) l.length ⟨l.length - 1, ⟨rfl, rfl, rfl, trivial⟩, S, by omega, by omega, by omega, fun j h0 h1 h2 => by omega⟩ ?_
  rintro k σ w1 ⟨i, hs, S, hi0, hi1, rfl, hall⟩
  refine WP_has hs ?_
  repeat' (first | refine WP_seq ?_ | refine WP_region ?_ | refine wl_nil ?_ | refine then_normal ?_ | refine inB_normal ?_ | refine then_exit ?_ | refine inB_here ?_ | refine then_ret ?_ | refine inB_ret ?_ | refine WP_ret ?_ | refine WP_skip ?_ | refine WP_exit ?_ | refine WP_block ?_ | refine WP_draw (by kernel_rfl) (by kernel_rfl) ?_ | (refine ql_nil ?_; intro w hb; replace S := S.grow hb; clear hb) | (refine g_move ?_; refine st_move rfl ?_) | (refine g_assign ?_; refine st_assign rfl ?_) | (refine g_b_sub ?_; (refine st_val rfl (r_subN rfl rfl ?_ ?_) ?_; (first | omega | (simp <;> omega)); (first | omega | (simp <;> omega)))) | (refine g_b_gtr ?_; refine st_val rfl (r_gtr rfl rfl) ?_) | (refine gq_move ?_; refine q_move rfl ?_) | (refine gq_b_sub ?_; (refine q_val rfl (fun w' hb => r_subN rfl rfl ?_ ?_) ?_; (first | omega | (simp <;> omega)); (first | omega | (simp <;> omega)))) | (refine gq_b_lss ?_; refine q_val rfl (fun w' hb => r_lss rfl rfl) ?_) | (refine gq_indexAddr ?_; (refine q_val rfl (fun w' hb => r_indexAddr (hr.mono (S.grow hb).below) rfl rfl ?_ ?_) ?_; (first | omega | (simp <;> omega)); (first | omega | (simp <;> omega)))) | (refine gq_load ?_; (refine q_val rfl (fun w' hb => r_loadElem (hr.mono (S.grow hb).below) rfl ?_ ?_) ?_; (first | omega | (simp <;> omega)); (first | omega | (simp <;> omega)))) | (refine gq_callV ?_; refine q_callV rfl (fun w' hb => r_call2 rfl rfl rfl) (fun w' hb => (hp _ _ _ (S.grow hb).below)) ?_) | (refine WP_cond rfl (fun h => ?_) (fun h => ?_) <;> (fail_if_success (have hh : true = true := h)) <;> (try simp only [decide_eq_true_eq, decide_eq_false_iff_not, Bool.not_eq_true', Bool.not_eq_false', Int.not_lt, Int.not_le] at h) <;> (try (exfalso; omega))))
  · refine end1 rfl rfl ⟨rb ?_, S.below⟩
    cases r with
    | false => rfl
    | true =>
      have := hrr.1 rfl (i - 1) (by omega) (by omega)
      rw [show i - 1 + 1 = i by omega] at this
      exact absurd h this
  · refine ⟨⟨_, ?_, i - 1, ⟨rfl, rfl, rfl, trivial⟩, S, by omega, by omega, rfl, fun j h0 h1 h2 => ?_⟩⟩
    · omega
    · by_cases e : j = i - 1
      · subst e; rw [show i - 1 + 1 = i by omega]; omega
      · exact hall j h0 (by omega) h2
  · refine end1 rfl rfl ⟨rb ?_, S.below⟩
    exact (hrr.2 fun j h0 h2 => hall j h0 (by omega) h2).symm


def sortedReq : List GRequest → Bool
  | [] => true
  | [_] => true
  | a :: b :: r => decide (a.At ≤ b.At) && sortedReq (b :: r)
theorem cmpI_lt {a b : Int} : cmpI a b < 0 ↔ a < b := by unfold cmpI; (repeat' split) <;> omega
theorem sortedReq_iff (l : List GRequest) : sortedReq l = true ↔ ∀ j : Int, 0 ≤ j → j + 1 < l.length → ¬ cmpI (nth l (j + 1)).At (nth l j).At < 0 := by
  simp only [cmpI_lt]
  induction l with
  | nil => exact ⟨fun _ j h0 h1 => by simp at h1; omega, fun _ => rfl⟩
  | cons a r ih =>
    cases r with
    | nil => exact ⟨fun _ j h0 h1 => by simp at h1; omega, fun _ => rfl⟩
    | cons b r =>
      simp only [sortedReq, Bool.and_eq_true, decide_eq_true_eq]
      rw [ih]
      constructor
      · rintro ⟨h, hr⟩ j h0 h1
        by_cases e : j = 0
        · subst e; show ¬ b.At < a.At; omega
        · have := hr (j - 1) (by omega) (by simp at h1 ⊢; omega)
          have e1 : nth (a :: b :: r) (j + 1) = nth (b :: r) (j - 1 + 1) := by
            unfold nth; rw [show (j + 1).toNat = (j - 1 + 1).toNat + 1 by omega]; rfl
          have e2 : nth (a :: b :: r) j = nth (b :: r) (j - 1) := by
            unfold nth; rw [show j.toNat = (j - 1).toNat + 1 by omega]; rfl
          rw [e1, e2]; exact this
      · intro h
        refine ⟨?_, fun j h0 h1 => ?_⟩
        · have := h 0 (by omega) (by simp; omega)
          have : ¬ b.At < a.At := this
          omega
        · have := h (j + 1) (by omega) (by simp at h1 ⊢; omega)
          have e1 : nth (a :: b :: r) (j + 1 + 1) = nth (b :: r) (j + 1) := by
            unfold nth; rw [show (j + 1 + 1).toNat = (j + 1).toNat + 1 by omega]; rfl
          have e2 : nth (a :: b :: r) (j + 1) = nth (b :: r) j := by
            unfold nth; rw [show (j + 1).toNat = j.toNat + 1 by omega]; rfl
          rwa [e1, e2] at this

def validReqs (l : List GRequest) : Bool := decide (l.length ≤ 24) && !l.any badReq && sortedReq l
theorem valid_spec {v : Value} {l : List GRequest} {w : World} (hr : Rd fGRequest.ty w v l) (hl : l.length ≤ 1000000000) :
    CallsV Try.prog 15 #[v] w (.bool (validReqs l)) := by
  have S := St.start w
  obtain ⟨A, c, rfl⟩ := hr.len
  refine CallsV.mk ?_
  refine calls_enter Try.func15 rfl Try.ntmps15 rfl ?_
  repeat' (first | refine WP_seq ?_ | refine WP_region ?_ | refine wl_nil ?_ | refine then_normal ?_ | refine WP_ret ?_ | (refine g_guard ?_; refine st_off rfl ?_) | (refine g_move ?_; refine st_move rfl ?_) | (refine g_assign ?_; refine st_assign rfl ?_) | (refine g_pick ?_; first | refine st_pickT rfl rfl ?_ | refine st_pickF rfl rfl ?_) | (refine g_b_leq ?_; refine st_val rfl (r_leq rfl rfl) ?_) | (refine g_un ?_; refine st_val rfl (r_not rfl) ?_) | (refine g_c_len ?_; refine st_val rfl (r_lenSlice rfl) ?_) | (refine g_callV ?_; first | (refine st_callV rfl (r_call2 rfl rfl rfl) (containsFunc_spec (cl := []) (hr.mono S.below) hl (fun x w' hb => bad_spec)) ?_; intro w hb; replace S := S.grow hb; clear hb) | (refine st_callV rfl (r_call2 rfl rfl rfl) (isSortedFunc_spec (cl := []) (hr.mono S.below) hl (fun x y w' hb => byTime_spec) (sortedReq_iff l)) ?_; intro w hb; replace S := S.grow hb; clear hb)) | (refine wl_split rfl rfl (fun h => ?_) (fun h => ?_) <;> (fail_if_success (have hh : true = true := h)) <;> (try simp only [decide_eq_true_eq, decide_eq_false_iff_not, Bool.not_eq_true', Bool.not_eq_false', Int.not_lt, Int.not_le] at h) <;> (try (exfalso; omega))))
  all_goals (refine end1 rfl rfl ⟨rb ?_, S.below⟩; unfold validReqs; first | (rw [h]; simp; omega) | (rw [h]; simp) | (rw [decide_eq_false (by omega)]; rfl) | (simp; omega))

def overL (x : GLease) (t : Int) : Bool := decide (x.Until ≤ t)
theorem over_spec {x : GLease} {t : Int} {w : World} : CallsV Try.prog 24 #[.agg x.enc.toArray, .int .i64 t] w (.bool (overL x t)) := by
  have S := St.start w
  refine CallsV.mk ?_
  refine calls_enter Try.func24 rfl Try.ntmps24 rfl ?_
  repeat' (first | refine WP_seq ?_ | refine WP_region ?_ | refine wl_nil ?_ | refine then_normal ?_ | refine WP_ret ?_ | (refine g_move ?_; refine st_move rfl ?_) | (refine g_assign ?_; refine st_assign rfl ?_) | (refine g_b_geq ?_; refine st_val rfl (r_geq rfl rfl) ?_) | (refine g_fieldAddr ?_; refine st_val rfl (r_fieldAddrL rfl) ?_) | (refine g_load ?_; refine st_val rfl (r_loadVar (i := 0) S rfl rfl rfl) ?_) | (refine g_box ?_; refine st_valE rfl (r_box S rfl) ?_; rintro _ w ⟨b, rfl, -, S'⟩; replace S := S'; clear S'))
  all_goals (exact end1 rfl rfl ⟨rfl, S.below⟩)

end Go.Proofs.Ytaoicaldhllbfaa
