import Derived.Test.YtaoicaldhllbfaaF
import Derived.Test.YtaoicaldhllbfaaGxRow
namespace Go.Proofs.Ytaoicaldhllbfaa
open Go Go.Gx Go.RowKit
set_option linter.unusedVariables false
set_option linter.unusedSimpArgs false

theorem safeN_range {n h o : Int} : 0 ≤ safeN n h o ∧ safeN n h o ≤ 3600 := by
  unfold safeN
  split
  · rename_i hh
    simp [inR] at hh
    have fl := least_range (o := o) (n := n) (by omega) (by omega) (by omega) (by omega)
    have fm1 : 0 ≤ leastS o n * (1000 - h) := Int.mul_nonneg (by omega) (by omega)
    have fm2 : leastS o n * (1000 - h) ≤ 3600 * 1000 := Int.mul_le_mul (by omega) (by omega) (by omega) (by omega)
    omega
  · omega

def holdsL (x : GLease) (hub own t : Int) : Bool := decide (x.Asked ≤ t) && decide (t - x.Asked < safeN x.Length hub own)
theorem holds_spec {x : GLease} {hub own t : Int} {w : World} (ht : inI t) (ha : inI x.Asked) : CallsV Try.prog 22 #[.agg x.enc.toArray, .int .i64 hub, .int .i64 own, .int .i64 t] w (.bool (holdsL x hub own t)) := by
  have S := St.start w
  have hs := safeN_range (n := x.Length) (h := hub) (o := own)
  unfold inI at ht ha
  refine CallsV.mk ?_
  refine calls_enter Try.func22 rfl Try.ntmps22 rfl ?_
  repeat' (first | refine WP_seq ?_ | refine WP_region ?_ | refine wl_nil ?_ | refine then_normal ?_ | refine WP_ret ?_ | refine WP_draw (by kernel_rfl) (by kernel_rfl) ?_ | (refine ql_nil ?_; intro w hb; replace S := S.grow hb; clear hb) | (refine g_assign ?_; refine st_assign rfl ?_) | (refine gq_guard ?_; refine q_off rfl ?_) | (refine gq_move ?_; refine q_move rfl ?_) | (refine gq_assign ?_; refine q_assign rfl ?_) | (refine gq_pick ?_; first | refine q_pickT rfl rfl ?_ | refine q_pickF rfl rfl ?_) | (refine gq_b_sub ?_; refine q_val rfl (fun w' hb => r_sub rfl rfl) ?_) | (refine gq_b_lss ?_; refine q_val rfl (fun w' hb => r_lss rfl rfl) ?_) | (refine gq_b_geq ?_; refine q_val rfl (fun w' hb => r_geq rfl rfl) ?_) | (refine gq_convert ?_; first | (refine q_val rfl (fun w' hb => r_convU rfl ?_ ?_) ?_; (first | omega | (simp <;> omega)); (first | omega | (simp <;> omega))) | refine q_val rfl (fun w' hb => r_convert rfl) ?_) | (refine gq_fieldAddr ?_; refine q_val rfl (fun w' hb => r_fieldAddrL rfl) ?_) | (refine gq_load ?_; refine q_val rfl (fun w' hb => r_loadVar (i := 0) (S.grow hb) rfl rfl rfl) ?_) | (refine gq_callV ?_; refine q_callV rfl (fun w' hb => r_call3 rfl rfl rfl rfl) (fun w' hb => safe_spec) ?_) | (refine g_box ?_; refine st_valE rfl (r_box S rfl) ?_; rintro _ w ⟨b, rfl, -, S'⟩; replace S := S'; clear S') | (refine ql_split rfl rfl (fun h => ?_) (fun h => ?_) <;> (fail_if_success (have hh : true = true := h)) <;> (try simp only [decide_eq_true_eq, decide_eq_false_iff_not, Bool.not_eq_true', Bool.not_eq_false', Int.not_lt, Int.not_le] at h) <;> (try (exfalso; omega))))
  · refine end1 rfl rfl ⟨rb ?_, S.below⟩
    unfold holdsL
    rw [decide_eq_true h, Bool.true_and]
    simp only [wrap_u64]
    congr 1
    apply propext
    omega
  · refine end1 rfl rfl ⟨rb ?_, S.below⟩
    unfold holdsL
    rw [decide_eq_false (by omega), Bool.false_and]

def exReq : List GRequest := [⟨0, 10, 100, 20⟩, ⟨1, 15, 50, 100⟩, ⟨1, 90, 50, 120⟩, ⟨1, 130, 10, 140⟩]
def exL : List GLease := [⟨0, 1, 10, 20, 100, 120⟩, ⟨0, 0, 0, 0, 0, 0⟩, ⟨1, 2, 90, 120, 50, 170⟩, ⟨1, 3, 130, 140, 10, 170⟩]
def ex1 : GLease := ⟨0, 1, 10, 20, 100, 120⟩
theorem ex_grants : (runL exReq).2 = exL := by decide
theorem ex_valid : validReqs exReq = true := by decide
theorem ex_bad : validReqs [⟨3, 0, 1, 0⟩] = false := by decide
theorem ex_last : lastL exL = ⟨1, 3, 130, 140, 10, 170⟩ := by decide
theorem grants_ok {v : Value} {l : List GRequest} {r : List GLease} {w : World} (hr : Rd fGRequest.ty w v l) (hv : validReqs l = true) (he : (runL l).2 = r) :
    CallsR Try.prog 12 #[v] w (fun v w' => ∃ v1, v = .tuple #[v1, .int .i64 0] ∧ NewRow fGLease 30 w w' v1 r) :=
  callsR_mono (grants_spec hr (by have := (valid_ok hv).1; omega)) fun u w' h => by unfold GrantsR at h; rwa [if_pos hv, he] at h
theorem grants_bad {v : Value} {l : List GRequest} {w : World} (hr : Rd fGRequest.ty w v l) (hl : l.length ≤ 1000000000) (hv : validReqs l = false) :
    CallsV Try.prog 12 #[v] w (.tuple #[.slice none 0 0, .int .i64 300]) :=
  callsR_val (grants_spec hr hl) fun u w' h => by unfold GrantsR at h; rwa [if_neg (by rw [hv]; decide)] at h
theorem same_true {v v2 : Value} {l : List GLease} {w : World} (hr : Rd fGLease.ty w v l) (hr2 : Rd fGLease.ty w v2 l) (hl : l.length ≤ 1000000000) :
    CallsV Try.prog 14 #[v, v2] w (.bool true) := by
  have h := sameL_spec hr hr2 hl hl
  rwa [decide_eq_true rfl] at h
def vA {α : Type} (D : Flat α) (x : α) : Value := .agg (D.enc x).toArray
theorem last_is {v : Value} {l : List GLease} {r : GLease} {w : World} (hr : Rd fGLease.ty w v l) (hl : l.length ≤ 1000000000) (he : lastL l = r) : CallsV Try.prog 17 #[v] w (.agg r.enc.toArray) := by
  rw [← he]; exact last_spec hr hl
set_option maxHeartbeats 1000000 in
theorem sane_spec {w : World} : CallsV Try.prog 10 #[] w (.bool true) := by
  have S := St.start w
  refine CallsV.mk ?_
  refine calls_enter Try.func10 rfl Try.ntmps10 rfl ?_
  repeat' (first | refine WP_seq ?_ | refine WP_region ?_ | refine wl_nil ?_ | refine then_normal ?_ | (refine g_assign ?_; refine st_assign rfl ?_) | (refine g_build ?_; refine st_val rfl (bd50_0_1_2_3 rfl rfl rfl rfl) ?_))
  refine st_valE rfl (r_litF (D := fGRequest) exReq (vA fGRequest) S rfl rfl (fun _ => rfl) rfl (by decide) (by decide)) ?_
  rintro _ w ⟨b1, rfl, -, -, S'⟩; replace S := S'; clear S'
  repeat' (first | refine WP_seq ?_ | refine WP_region ?_ | refine wl_nil ?_ | refine then_normal ?_ | (refine g_move ?_; refine st_move rfl ?_) | (refine g_assign ?_; refine st_assign rfl ?_))
  refine st_callR rfl (r_call1 rfl rfl) (grants_ok (S.rdRow (D := fGRequest) (i := 0) rfl) ex_valid ex_grants) ?_
  rintro _ w hb ⟨v1, rfl, hn⟩; replace S := S.new hb hn; clear hb hn
  repeat' (first | refine WP_seq ?_ | refine WP_region ?_ | refine wl_nil ?_ | refine then_normal ?_ | (refine g_move ?_; refine st_move rfl ?_) | (refine g_assign ?_; refine st_assign rfl ?_) | (refine g_build ?_; refine st_val rfl (bd50_0_2 rfl rfl) ?_) | (refine g_extract ?_; refine st_val rfl (r_extract rfl rfl) ?_))
  refine st_valE rfl (r_litF (D := fGRequest) [⟨3, 0, 1, 0⟩] (vA fGRequest) S rfl rfl (fun _ => rfl) rfl (by decide) (by decide)) ?_
  rintro _ w ⟨b2, rfl, -, -, S'⟩; replace S := S'; clear S'
  repeat' (first | refine WP_seq ?_ | refine WP_region ?_ | refine wl_nil ?_ | refine then_normal ?_ | (refine g_move ?_; refine st_move rfl ?_) | (refine g_assign ?_; refine st_assign rfl ?_) | (refine g_build ?_; refine st_val rfl (bd30_0_1_2_3_4_5 rfl rfl rfl rfl rfl rfl) ?_) | (refine g_extract ?_; refine st_val rfl (r_extract rfl rfl) ?_) | (refine g_callV ?_; (refine st_callV rfl (r_call1 rfl rfl) (grants_bad (S.rdRow (D := fGRequest) (i := 2) rfl) (by decide) ex_bad) ?_; intro w hb; replace S := S.grow hb; clear hb)) | (refine g_alloc ?_; refine st_valE rfl (r_alloc S) ?_; rintro _ w ⟨b, rfl, -, S'⟩; replace S := S'; clear S'))
  repeat' (first | refine WP_seq ?_ | refine WP_region ?_ | refine wl_nil ?_ | refine then_normal ?_ | (refine g_build ?_; first | refine st_val rfl (bd30_ ) ?_ | refine st_val rfl (bd30_0_1_2_3_4_5 rfl rfl rfl rfl rfl rfl) ?_) | (refine g_load ?_; first | refine st_val rfl (r_loadVarA (i := 3) S rfl rfl rfl rfl) ?_ | refine st_val rfl (r_loadVarA (i := 4) S rfl rfl rfl rfl) ?_) | (refine g_alloc ?_; refine st_valE rfl (r_alloc S) ?_; rintro _ w ⟨b, rfl, -, S'⟩; replace S := S'; clear S') | (refine g_store ?_; first | (refine st_skipE rfl (r_storeVar (i := 0) S rfl rfl rfl rfl (of_decide_eq_true rfl) (of_decide_eq_true rfl)) ?_; intro w S'; replace S := S'; clear S') | (refine st_skipE rfl (r_storeVar (i := 1) S rfl rfl rfl rfl (of_decide_eq_true rfl) (of_decide_eq_true rfl)) ?_; intro w S'; replace S := S'; clear S') | (refine st_skipE rfl (r_storeVar (i := 2) S rfl rfl rfl rfl (of_decide_eq_true rfl) (of_decide_eq_true rfl)) ?_; intro w S'; replace S := S'; clear S') | (refine st_skipE rfl (r_storeVar (i := 3) S rfl rfl rfl rfl (of_decide_eq_true rfl) (of_decide_eq_true rfl)) ?_; intro w S'; replace S := S'; clear S') | (refine st_skipE rfl (r_storeVar (i := 4) S rfl rfl rfl rfl (of_decide_eq_true rfl) (of_decide_eq_true rfl)) ?_; intro w S'; replace S := S'; clear S') | (refine st_skipE rfl (r_storeVar (i := 5) S rfl rfl rfl rfl (of_decide_eq_true rfl) (of_decide_eq_true rfl)) ?_; intro w S'; replace S := S'; clear S')))
  refine st_valE rfl (r_litF (D := fGLease) exL (vA fGLease) S rfl rfl (fun _ => rfl) rfl (by decide) (by decide)) ?_
  rintro _ w ⟨b3, rfl, -, -, S'⟩; replace S := S'; clear S'
  repeat' (first | refine WP_seq ?_ | refine WP_region ?_ | refine wl_nil ?_ | refine then_normal ?_ | refine WP_ret ?_ | refine WP_draw (by kernel_rfl) (by kernel_rfl) ?_ | (refine ql_nil ?_; intro w hb; replace S := S.grow hb; clear hb) | (refine g_move ?_; refine st_move rfl ?_) | (refine g_assign ?_; refine st_assign rfl ?_) | (refine g_pick ?_; refine st_pickT rfl rfl ?_) | (refine g_un ?_; refine st_val rfl (r_not rfl) ?_) | (refine g_load ?_; refine st_val rfl (r_loadVarA (i := 3) S rfl rfl rfl rfl) ?_) | (refine g_callV ?_; (refine st_callV rfl (r_call4 rfl rfl rfl rfl rfl) (holds_spec (x := ex1) (by constructor <;> decide) (by constructor <;> decide)) ?_; intro w hb; replace S := S.grow hb; clear hb)) | (refine gq_move ?_; refine q_move rfl ?_) | (refine gq_assign ?_; refine q_assign rfl ?_) | (refine gq_pick ?_; refine q_pickT rfl rfl ?_) | (refine gq_b_eql ?_; first | refine q_val rfl (fun w' hb => r_eql rfl rfl) ?_ | refine q_val rfl (fun w' hb => eql30 rfl rfl) ?_) | (refine gq_un ?_; refine q_val rfl (fun w' hb => r_not rfl) ?_) | (refine gq_load ?_; first | refine q_val rfl (fun w' hb => r_loadVarA (i := 3) (S.grow hb) rfl rfl rfl rfl) ?_ | refine q_val rfl (fun w' hb => r_loadVarA (i := 4) (S.grow hb) rfl rfl rfl rfl) ?_) | (refine gq_callV ?_; first | refine q_callV rfl (fun w' hb => r_call2 rfl rfl rfl) (fun w' hb => same_true ((S.grow hb).rdRow (D := fGLease) (i := 1) rfl) ((S.grow hb).rdRow (D := fGLease) (i := 5) rfl) (by decide)) ?_ | refine q_callV rfl (fun w' hb => r_call1 rfl rfl) (fun w' hb => last_is ((S.grow hb).rdRow (D := fGLease) (i := 1) rfl) (by decide) ex_last) ?_ | refine q_callV rfl (fun w' hb => r_call3 rfl rfl rfl rfl) (fun w' hb => safe_spec) ?_ | refine q_callV rfl (fun w' hb => r_call2 rfl rfl rfl) (fun w' hb => over_spec (x := ex1)) ?_ | refine q_callV rfl (fun w' hb => r_call1 rfl rfl) (fun w' hb => valid_spec ((S.grow hb).rdRow (D := fGRequest) (i := 0) rfl) (by decide)) ?_))
  exact end1 rfl rfl ⟨rb ex_valid, S.below⟩
end Go.Proofs.Ytaoicaldhllbfaa
