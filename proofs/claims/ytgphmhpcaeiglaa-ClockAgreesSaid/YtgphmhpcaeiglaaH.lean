import Derived.Test.YtgphmhpcaeiglaaG
namespace Go.Proofs.Ytgphmhpcaeiglaa
open Go Go.Gx Go.RowKit
set_option linter.unusedVariables false
set_option linter.unusedSimpArgs false

def firstC (d : Int) (l : List GReading) (t : Int) : Int := lst (fun x => decide (t ≤ highB d l x)) 10000001
def beyondC (d : Int) (l : List GReading) (t : Int) : Int := lst (fun x => decide (t < lowB d l x)) 10000001
def readsI (d : Int) (l : List GReading) (t : Int) : Int × Int × Int := if validC d l = true ∧ 0 ≤ t ∧ t ≤ 10000000 ∧ firstC d l t < beyondC d l t then (firstC d l t, beyondC d l t - 1, 0) else (0, 0, 50)
theorem firstC_range (d : Int) (l : List GReading) (t : Int) : 0 ≤ firstC d l t ∧ firstC d l t ≤ 10000001 := by
  have := (lst_spec (fun x => decide (t ≤ highB d l x)) 10000001).1; unfold firstC; omega
theorem beyondC_range (d : Int) (l : List GReading) (t : Int) : 0 ≤ beyondC d l t ∧ beyondC d l t ≤ 10000001 := by
  have := (lst_spec (fun x => decide (t < lowB d l x)) 10000001).1; unfold beyondC; omega
theorem firstC_lo {d : Int} {l : List GReading} {t x : Int} (x0 : 0 ≤ x) (h : x < firstC d l t) : highB d l x < t := by
  have := (lst_spec (fun x => decide (t ≤ highB d l x)) 10000001).2.1 x x0 h
  simpa using this
theorem firstC_hi {d : Int} {l : List GReading} (hc : OkC d l) {t x : Int} (h : firstC d l t ≤ x) (x1 : x ≤ 10000000) : t ≤ highB d l x := by
  have := lst_hi (p := fun x => decide (t ≤ highB d l x)) (n := 10000001) (fun i j i0 hij hj hp => by simp at hp ⊢; have := highB_mono hc i0 hij (by omega); omega) h (by omega)
  simpa using this
theorem beyondC_lo {d : Int} {l : List GReading} {t x : Int} (x0 : 0 ≤ x) (h : x < beyondC d l t) : lowB d l x ≤ t := by
  have := (lst_spec (fun x => decide (t < lowB d l x)) 10000001).2.1 x x0 h
  simpa using this
theorem beyondC_hi {d : Int} {l : List GReading} (hc : OkC d l) {t x : Int} (h : beyondC d l t ≤ x) (x1 : x ≤ 10000000) : t < lowB d l x := by
  have := lst_hi (p := fun x => decide (t < lowB d l x)) (n := 10000001) (fun i j i0 hij hj hp => by simp at hp ⊢; have := lowB_mono hc i0 hij (by omega); omega) h (by omega)
  simpa using this

theorem firstC_ex {d : Int} {l : List GReading} (hc : OkC d l) (t : Int) : ∃ F, firstC d l t = F ∧ 0 ≤ F ∧ F ≤ 10000001 ∧ (∀ j : Int, 0 ≤ j → j < F → highB d l j < t) ∧ ∀ j : Int, F ≤ j → j ≤ 10000000 → t ≤ highB d l j :=
  ⟨_, rfl, (firstC_range d l t).1, (firstC_range d l t).2, fun j j0 j1 => firstC_lo j0 j1, fun j j0 j1 => firstC_hi hc j0 j1⟩
theorem beyondC_ex {d : Int} {l : List GReading} (hc : OkC d l) (t : Int) : ∃ F, beyondC d l t = F ∧ 0 ≤ F ∧ F ≤ 10000001 ∧ (∀ j : Int, 0 ≤ j → j < F → lowB d l j ≤ t) ∧ ∀ j : Int, F ≤ j → j ≤ 10000000 → t < lowB d l j :=
  ⟨_, rfl, (beyondC_range d l t).1, (beyondC_range d l t).2, fun j j0 j1 => beyondC_lo j0 j1, fun j j0 j1 => beyondC_hi hc j0 j1⟩
theorem reads1_spec {d t x : Int} {v : Value} {l : List GReading} {b2 b3 : Nat} {w0 : World} (hr : Rd fGReading.ty w0 v l) (hc : OkC d l) (h2 : CellsAt w0 ⟨b2, 0, none⟩ [.int .i64 d, v]) (h3 : CellsAt w0 ⟨b3, 0, none⟩ [.int .i64 t]) (x0 : 0 ≤ x) (x1 : x ≤ 10000000) :
    CallsV Try.prog 38 #[.int .i64 x, .pointer (some ⟨b2, 0, none⟩), .pointer (some ⟨b3, 0, none⟩)] w0 (.bool (decide (t ≤ highB d l x))) := by
  have S := St.start w0
  refine CallsV.mk ?_
  refine calls_enter Try.func38 rfl Try.ntmps38 rfl ?_
  repeat' (first | refine WP_seq ?_ | refine WP_region ?_ | refine wl_nil ?_ | refine then_normal ?_ | refine WP_ret ?_ | refine WP_draw (by kernel_rfl) (by kernel_rfl) ?_ | (refine ql_nil ?_; intro w hb; replace S := S.grow hb; clear hb) | (refine g_assign ?_; refine st_assign rfl ?_) | (refine gq_move ?_; refine q_move rfl ?_) | (refine gq_assign ?_; refine q_assign rfl ?_) | (refine gq_b_geq ?_; refine q_val rfl (fun w' hb => r_geq rfl rfl) ?_) | (refine gq_field ?_; refine q_val rfl (fun w' hb => r_field rfl rfl) ?_) | (refine gq_load ?_; first | refine q_val rfl (fun w' hb => r_loadA rfl rfl (h2.mono (S.grow hb).below)) ?_ | refine q_val rfl (fun w' hb => r_loadAt (h3.mono (S.grow hb).below) rfl rfl) ?_) | (refine gq_callV ?_; refine q_callV rfl (fun w' hb => r_call2 rfl rfl rfl) (fun w' hb => around_spec (hr.mono (S.grow hb).below) hc x0 x1) ?_))
  all_goals (exact end1 rfl rfl ⟨rfl, S.below⟩)
theorem reads2_spec {d t x : Int} {v : Value} {l : List GReading} {b2 b3 : Nat} {w0 : World} (hr : Rd fGReading.ty w0 v l) (hc : OkC d l) (h2 : CellsAt w0 ⟨b2, 0, none⟩ [.int .i64 d, v]) (h3 : CellsAt w0 ⟨b3, 0, none⟩ [.int .i64 t]) (x0 : 0 ≤ x) (x1 : x ≤ 10000000) :
    CallsV Try.prog 39 #[.int .i64 x, .pointer (some ⟨b2, 0, none⟩), .pointer (some ⟨b3, 0, none⟩)] w0 (.bool (decide (t < lowB d l x))) := by
  have S := St.start w0
  refine CallsV.mk ?_
  refine calls_enter Try.func39 rfl Try.ntmps39 rfl ?_
  repeat' (first | refine WP_seq ?_ | refine WP_region ?_ | refine wl_nil ?_ | refine then_normal ?_ | refine WP_ret ?_ | refine WP_draw (by kernel_rfl) (by kernel_rfl) ?_ | (refine ql_nil ?_; intro w hb; replace S := S.grow hb; clear hb) | (refine g_assign ?_; refine st_assign rfl ?_) | (refine gq_move ?_; refine q_move rfl ?_) | (refine gq_assign ?_; refine q_assign rfl ?_) | (refine gq_b_gtr ?_; refine q_val rfl (fun w' hb => r_gtr rfl rfl) ?_) | (refine gq_field ?_; refine q_val rfl (fun w' hb => r_field rfl rfl) ?_) | (refine gq_load ?_; first | refine q_val rfl (fun w' hb => r_loadA rfl rfl (h2.mono (S.grow hb).below)) ?_ | refine q_val rfl (fun w' hb => r_loadAt (h3.mono (S.grow hb).below) rfl rfl) ?_) | (refine gq_callV ?_; refine q_callV rfl (fun w' hb => r_call2 rfl rfl rfl) (fun w' hb => around_spec (hr.mono (S.grow hb).below) hc x0 x1) ?_))
  all_goals (exact end1 rfl rfl ⟨rfl, S.below⟩)

theorem reads_spec {d t : Int} {v : Value} {l : List GReading} {w0 : World} (hr : Rd fGReading.ty w0 v l) (hl : l.length ≤ maxLen) (hd : inI d) (ht : inI t) :
    CallsV Try.prog 21 #[.agg #[.int .i64 d, v], .int .i64 t] w0 (.tuple #[.int .i64 (readsI d l t).1, .int .i64 (readsI d l t).2.1, .int .i64 (readsI d l t).2.2]) := by
  have S := St.start w0
  unfold inI at ht
  obtain ⟨A, c, rfl⟩ := hr.len
  refine CallsV.mk ?_
  refine calls_enter Try.func21 rfl Try.ntmps21 rfl ?_
  by_cases hg : validC d l = true ∧ 0 ≤ t ∧ t ≤ 10000000
  · obtain ⟨hv, t0, t1⟩ := hg
    have hc := validC_ok hv
    obtain ⟨F, hF, f0, f1, flo, fhi⟩ := firstC_ex hc t
    obtain ⟨B, hB, b0, b1, blo, bhi⟩ := beyondC_ex hc t
    have sf := fun (b2 b3 : Nat) (w : World) (hb : Below w0.heap.size w0 w) (h2 : CellsAt w ⟨b2, 0, none⟩ [.int .i64 d, .slice A l.length c]) (h3 : CellsAt w ⟨b3, 0, none⟩ [.int .i64 t]) =>
      search_spec (g := 38) (cl := [.pointer (some ⟨b2, 0, none⟩), .pointer (some ⟨b3, 0, none⟩)]) (p := fun x => decide (t ≤ highB d l x)) (n := 10000001) (w := w) (r := F) (by omega) f0 f1
        (fun j j0 j1 => by have := flo j j0 j1; simp; omega) (fun j j0 j1 => by have := fhi j j0 (by omega); simp; omega) (fun x w' hb' x0 x1 => reads1_spec ((hr.mono hb).mono hb') hc (h2.mono hb') (h3.mono hb') x0 (by omega))
    have sb := fun (b2 b3 : Nat) (w : World) (hb : Below w0.heap.size w0 w) (h2 : CellsAt w ⟨b2, 0, none⟩ [.int .i64 d, .slice A l.length c]) (h3 : CellsAt w ⟨b3, 0, none⟩ [.int .i64 t]) =>
      search_spec (g := 39) (cl := [.pointer (some ⟨b2, 0, none⟩), .pointer (some ⟨b3, 0, none⟩)]) (p := fun x => decide (t < lowB d l x)) (n := 10000001) (w := w) (r := B) (by omega) b0 b1
        (fun j j0 j1 => by have := blo j j0 j1; simp; omega) (fun j j0 j1 => by have := bhi j j0 (by omega); simp; omega) (fun x w' hb' x0 x1 => reads2_spec ((hr.mono hb).mono hb') hc (h2.mono hb') (h3.mono hb') x0 (by omega))
    by_cases hlh : F < B
    · have e : readsI d l t = (F, B - 1, 0) := by unfold readsI; rw [hF, hB, if_pos ⟨hv, t0, t1, hlh⟩]
      rw [e]
      repeat' (first | refine WP_seq ?_ | refine WP_region ?_ | refine wl_nil ?_ | refine then_normal ?_ | refine WP_ret ?_ | refine WP_skip ?_ | (refine g_move ?_; refine st_move rfl ?_) | (refine g_assign ?_; refine st_assign rfl ?_) | (refine g_pick ?_; refine st_pickF rfl rfl ?_) | (refine g_b_sub ?_; (refine st_val rfl (r_subN rfl rfl ?_ ?_) ?_; (first | omega | (simp <;> omega)); (first | omega | (simp <;> omega)))) | (refine g_b_lss ?_; refine st_val rfl (r_lss rfl rfl) ?_) | (refine g_b_gtr ?_; refine st_val rfl (r_gtr rfl rfl) ?_) | (refine g_b_geq ?_; refine st_val rfl (r_geq rfl rfl) ?_) | (refine g_un ?_; refine st_val rfl (r_not rfl) ?_) | (refine g_makeFunc ?_; refine st_val rfl (r_makeFn2 rfl rfl) ?_) | (refine g_load ?_; first | refine st_val rfl (r_loadVarA (i := 0) S rfl rfl rfl rfl) ?_ | refine st_val rfl (r_loadVar (i := 1) S rfl rfl rfl) ?_) | (refine g_callV ?_; first | (refine st_callV rfl (r_call1 rfl rfl) (validC_is (hr.mono S.below) hl hd hv) ?_; intro w hb; replace S := S.grow hb; clear hb) | (refine st_callV rfl (r_call2 rfl rfl rfl) (sf _ _ _ S.below (S.var (i := 0) rfl) (S.var (i := 1) rfl)) ?_; intro w hb; replace S := S.grow hb; clear hb) | (refine st_callV rfl (r_call2 rfl rfl rfl) (sb _ _ _ S.below (S.var (i := 0) rfl) (S.var (i := 1) rfl)) ?_; intro w hb; replace S := S.grow hb; clear hb)) | (refine g_box ?_; refine st_valE rfl (r_box S rfl) ?_; rintro _ w ⟨b, rfl, -, S'⟩; replace S := S'; clear S') | (refine wl_split rfl rfl (fun h => ?_) (fun h => ?_) <;> (fail_if_success (have hh : true = true := h)) <;> (try simp only [decide_eq_true_eq, decide_eq_false_iff_not, Bool.not_eq_true', Bool.not_eq_false', Int.not_lt, Int.not_le] at h) <;> (try (exfalso; omega))) | (refine WP_cond rfl (fun h => ?_) (fun h => ?_) <;> (fail_if_success (have hh : true = true := h)) <;> (try simp only [decide_eq_true_eq, decide_eq_false_iff_not, Bool.not_eq_true', Bool.not_eq_false', Int.not_lt, Int.not_le] at h) <;> (try (exfalso; omega))))
      refine end3 (v := .int .i64 _) (v2 := .int .i64 _) (v3 := .int .i64 _) rfl rfl rfl rfl ⟨rfl, S.below⟩
    · have e : readsI d l t = (0, 0, 50) := by unfold readsI; rw [hF, hB, if_neg (fun h => hlh h.2.2.2)]
      rw [e]
      repeat' (first | refine WP_seq ?_ | refine WP_region ?_ | refine wl_nil ?_ | refine then_normal ?_ | refine then_ret ?_ | refine WP_ret ?_ | refine WP_skip ?_ | (refine g_move ?_; refine st_move rfl ?_) | (refine g_assign ?_; refine st_assign rfl ?_) | (refine g_pick ?_; refine st_pickF rfl rfl ?_) | (refine g_b_lss ?_; refine st_val rfl (r_lss rfl rfl) ?_) | (refine g_b_gtr ?_; refine st_val rfl (r_gtr rfl rfl) ?_) | (refine g_b_geq ?_; refine st_val rfl (r_geq rfl rfl) ?_) | (refine g_un ?_; refine st_val rfl (r_not rfl) ?_) | (refine g_makeFunc ?_; refine st_val rfl (r_makeFn2 rfl rfl) ?_) | (refine g_load ?_; first | refine st_val rfl (r_loadVarA (i := 0) S rfl rfl rfl rfl) ?_ | refine st_val rfl (r_loadVar (i := 1) S rfl rfl rfl) ?_) | (refine g_callV ?_; first | (refine st_callV rfl (r_call1 rfl rfl) (validC_is (hr.mono S.below) hl hd hv) ?_; intro w hb; replace S := S.grow hb; clear hb) | (refine st_callV rfl (r_call2 rfl rfl rfl) (sf _ _ _ S.below (S.var (i := 0) rfl) (S.var (i := 1) rfl)) ?_; intro w hb; replace S := S.grow hb; clear hb) | (refine st_callV rfl (r_call2 rfl rfl rfl) (sb _ _ _ S.below (S.var (i := 0) rfl) (S.var (i := 1) rfl)) ?_; intro w hb; replace S := S.grow hb; clear hb)) | (refine g_box ?_; refine st_valE rfl (r_box S rfl) ?_; rintro _ w ⟨b, rfl, -, S'⟩; replace S := S'; clear S') | (refine wl_split rfl rfl (fun h => ?_) (fun h => ?_) <;> (fail_if_success (have hh : true = true := h)) <;> (try simp only [decide_eq_true_eq, decide_eq_false_iff_not, Bool.not_eq_true', Bool.not_eq_false', Int.not_lt, Int.not_le] at h) <;> (try (exfalso; omega))) | (refine WP_cond rfl (fun h => ?_) (fun h => ?_) <;> (fail_if_success (have hh : true = true := h)) <;> (try simp only [decide_eq_true_eq, decide_eq_false_iff_not, Bool.not_eq_true', Bool.not_eq_false', Int.not_lt, Int.not_le] at h) <;> (try (exfalso; omega))))
      refine end3 (v := .int .i64 _) (v2 := .int .i64 _) (v3 := .int .i64 _) rfl rfl rfl rfl ⟨rfl, S.below⟩
  · have e : readsI d l t = (0, 0, 50) := by unfold readsI; rw [if_neg (fun h => hg ⟨h.1, h.2.1, h.2.2.1⟩)]
    rw [e]
    by_cases hv : validC d l = true
    · repeat' (first | refine WP_seq ?_ | refine WP_region ?_ | refine wl_nil ?_ | refine then_normal ?_ | refine then_ret ?_ | refine WP_ret ?_ | refine WP_skip ?_ | refine WP_condT rfl ?_ | (refine g_guard ?_; refine st_off rfl ?_) | (refine g_move ?_; refine st_move rfl ?_) | (refine g_assign ?_; refine st_assign rfl ?_) | (refine g_pick ?_; first | refine st_pickT rfl rfl ?_ | refine st_pickF rfl rfl ?_) | (refine g_b_lss ?_; refine st_val rfl (r_lss rfl rfl) ?_) | (refine g_b_gtr ?_; refine st_val rfl (r_gtr rfl rfl) ?_) | (refine g_un ?_; refine st_val rfl (r_not rfl) ?_) | (refine g_makeFunc ?_; refine st_val rfl (r_makeFn2 rfl rfl) ?_) | (refine g_load ?_; first | refine st_val rfl (r_loadVarA (i := 0) S rfl rfl rfl rfl) ?_ | refine st_val rfl (r_loadVar (i := 1) S rfl rfl rfl) ?_) | (refine g_callV ?_; (refine st_callV rfl (r_call1 rfl rfl) (validC_is (hr.mono S.below) hl hd hv) ?_; intro w hb; replace S := S.grow hb; clear hb)) | (refine g_box ?_; refine st_valE rfl (r_box S rfl) ?_; rintro _ w ⟨b, rfl, -, S'⟩; replace S := S'; clear S') | (refine wl_split rfl rfl (fun h => ?_) (fun h => ?_) <;> (fail_if_success (have hh : true = true := h)) <;> (try simp only [decide_eq_true_eq, decide_eq_false_iff_not, Bool.not_eq_true', Bool.not_eq_false', Int.not_lt, Int.not_le] at h) <;> (try (exfalso; omega))) | (refine WP_cond rfl (fun h => ?_) (fun h => ?_) <;> (fail_if_success (have hh : true = true := h)) <;> (try simp only [decide_eq_true_eq, decide_eq_false_iff_not, Bool.not_eq_true', Bool.not_eq_false', Int.not_lt, Int.not_le] at h) <;> (try (exfalso; omega))))
      all_goals first | (refine end3 (v := .int .i64 _) (v2 := .int .i64 _) (v3 := .int .i64 _) rfl rfl rfl rfl ⟨rfl, S.below⟩) | (exfalso; exact hg ⟨hv, by omega, by omega⟩)
    · have hv' : validC d l = false := by simpa using hv
      repeat' (first | refine WP_seq ?_ | refine WP_region ?_ | refine wl_nil ?_ | refine then_normal ?_ | refine then_ret ?_ | refine WP_ret ?_ | refine WP_condT rfl ?_ | (refine g_guard ?_; refine st_off rfl ?_) | (refine g_move ?_; refine st_move rfl ?_) | (refine g_assign ?_; refine st_assign rfl ?_) | (refine g_pick ?_; refine st_pickT rfl rfl ?_) | (refine g_un ?_; refine st_val rfl (r_not rfl) ?_) | (refine g_load ?_; refine st_val rfl (r_loadVarA (i := 0) S rfl rfl rfl rfl) ?_) | (refine g_callV ?_; (refine st_callV rfl (r_call1 rfl rfl) (validC_is (hr.mono S.below) hl hd hv') ?_; intro w hb; replace S := S.grow hb; clear hb)) | (refine g_box ?_; refine st_valE rfl (r_box S rfl) ?_; rintro _ w ⟨b, rfl, -, S'⟩; replace S := S'; clear S'))
      refine end3 (v := .int .i64 _) (v2 := .int .i64 _) (v3 := .int .i64 _) rfl rfl rfl rfl ⟨rfl, S.below⟩

theorem readsR_spec {d t : Int} {v : Value} {l : List GReading} {w0 : World} (hr : Rd fGReading.ty w0 v l) (hl : l.length ≤ maxLen) (hd : inI d) (ht : inI t) :
    CallsV Try.prog 22 #[.agg #[.int .i64 d, v], .int .i64 t] w0 (.tuple #[.int .i64 (readsI d l t).1, .int .i64 (readsI d l t).2.1, .int .i64 (readsI d l t).2.2]) := by
  have S := St.start w0
  unfold inI at ht
  obtain ⟨A, c, rfl⟩ := hr.len
  refine CallsV.mk ?_
  refine calls_enter Try.func22 rfl Try.ntmps22 rfl ?_
  by_cases hg : validC d l = true ∧ 0 ≤ t ∧ t ≤ 10000000
  · obtain ⟨hv, t0, t1⟩ := hg
    have hc := validC_ok hv
    obtain ⟨F, hF, f0, f1, flo, fhi⟩ := firstC_ex hc t
    obtain ⟨B, hB, b0, b1, blo, bhi⟩ := beyondC_ex hc t
    repeat' (first | refine WP_seq ?_ | refine WP_region ?_ | refine wl_nil ?_ | refine then_normal ?_ | refine WP_skip ?_ | refine WP_block ?_ | (refine g_move ?_; refine st_move rfl ?_) | (refine g_assign ?_; refine st_assign rfl ?_) | (refine g_pick ?_; refine st_pickF rfl rfl ?_) | (refine g_b_lss ?_; refine st_val rfl (r_lss rfl rfl) ?_) | (refine g_b_gtr ?_; refine st_val rfl (r_gtr rfl rfl) ?_) | (refine g_un ?_; refine st_val rfl (r_not rfl) ?_) | (refine g_load ?_; refine st_val rfl (r_loadVarA (i := 0) S rfl rfl rfl rfl) ?_) | (refine g_callV ?_; (refine st_callV rfl (r_call1 rfl rfl) (validR_is (hr.mono S.below) hl hd hv) ?_; intro w hb; replace S := S.grow hb; clear hb)) | (refine g_box ?_; refine st_valE rfl (r_box S rfl) ?_; rintro _ w ⟨b, rfl, -, S'⟩; replace S := S'; clear S') | (refine wl_split rfl rfl (fun h => ?_) (fun h => ?_) <;> (fail_if_success (have hh : true = true := h)) <;> (try simp only [decide_eq_true_eq, decide_eq_false_iff_not, Bool.not_eq_true', Bool.not_eq_false', Int.not_lt, Int.not_le] at h) <;> (try (exfalso; omega))) | (refine WP_cond rfl (fun h => ?_) (fun h => ?_) <;> (fail_if_success (have hh : true = true := h)) <;> (try simp only [decide_eq_true_eq, decide_eq_false_iff_not, Bool.not_eq_true', Bool.not_eq_false', Int.not_lt, Int.not_le] at h) <;> (try (exfalso; omega))))
    refine WP_loop (fun k σ w1 => ∃ i j : Int, Has σ [(1, .int .i64 t), (2, .pointer (some ⟨b, 0, none⟩)), (7, .int .i64 i), (8, .int .i64 j)] ∧ St w0 w1 [.var b 24 [.int .i64 d, .slice A l.length c]] ∧ 0 ≤ i ∧ i ≤ F ∧ F ≤ j ∧ j ≤ 10000001 ∧ k = (j - i).toNat) _ ⟨0, 10000001, ⟨rfl, rfl, rfl, rfl, trivial⟩, S, by omega, by omega, by omega, by omega, rfl⟩ ?_
    clear S
    rintro k σ w1 ⟨i, j, hs, S, a0, a1, a2, a3, rfl⟩
    refine WP_has hs ?_
    repeat' (first | refine WP_seq ?_ | refine WP_region ?_ | refine wl_nil ?_ | refine then_normal ?_ | refine inB_normal ?_ | refine then_exit ?_ | refine inB_here ?_ | refine WP_skip ?_ | refine WP_exit ?_ | refine WP_block ?_ | (refine g_move ?_; refine st_move rfl ?_) | (refine g_assign ?_; refine st_assign rfl ?_) | (refine g_b_add ?_; (refine st_val rfl (r_addN rfl rfl ?_ ?_) ?_; (first | omega | (simp <;> omega)); (first | omega | (simp <;> omega)))) | (refine g_b_quo ?_; (refine st_val rfl (r_quoN rfl rfl ?_ ?_ ?_) ?_; (first | omega | (simp <;> omega)); (first | omega | (simp <;> omega)); (first | omega | (simp <;> omega)))) | (refine g_b_lss ?_; refine st_val rfl (r_lss rfl rfl) ?_) | (refine g_b_geq ?_; refine st_val rfl (r_geq rfl rfl) ?_) | (refine g_extract ?_; refine st_val rfl (r_extract rfl rfl) ?_) | (refine g_load ?_; refine st_val rfl (r_loadVarA (i := 0) S rfl rfl rfl rfl) ?_) | (refine g_callV ?_; (refine st_callV rfl (r_call2 rfl rfl rfl) (bounds_spec (hr.mono S.below) hc (by omega) (by omega)) ?_; intro w hb; replace S := S.grow hb; clear hb)) | (refine WP_cond rfl (fun h => ?_) (fun h => ?_) <;> (fail_if_success (have hh : true = true := h)) <;> (try simp only [decide_eq_true_eq, decide_eq_false_iff_not, Bool.not_eq_true', Bool.not_eq_false', Int.not_lt, Int.not_le] at h) <;> (try (exfalso; omega))))
    · refine ⟨⟨_, ?_, i, (i + j) / 2, ⟨rfl, rfl, rfl, rfl, trivial⟩, S.keep [true], by omega, by omega, ?_, by omega, rfl⟩⟩
      · omega
      · rcases Int.lt_or_le ((i + j) / 2) F with hh | hh
        · have := flo _ (by omega) hh; omega
        · exact hh
    · refine ⟨⟨_, ?_, (i + j) / 2 + 1, j, ⟨rfl, rfl, rfl, rfl, trivial⟩, S.keep [true], by omega, ?_, by omega, by omega, rfl⟩⟩
      · omega
      · rcases Int.lt_or_le ((i + j) / 2) F with hh | hh
        · omega
        · have := fhi _ hh (by omega); omega
    · obtain rfl : i = F := by omega
      refine WP_loop (fun k σ w1 => ∃ p j : Int, Has σ [(1, .int .i64 t), (2, .pointer (some ⟨b, 0, none⟩)), (7, .int .i64 i), (8, .int .i64 j), (12, .int .i64 p)] ∧ St w0 w1 [.var b 24 [.int .i64 d, .slice A l.length c]] ∧ -1 ≤ p ∧ p < B ∧ B ≤ j ∧ j ≤ 10000001 ∧ k = (j - p).toNat) _ ⟨-1, 10000001, ⟨rfl, rfl, rfl, rfl, rfl, trivial⟩, S.keep [true], by omega, by omega, by omega, by omega, rfl⟩ ?_
      clear S hs
      rintro k σ w1 ⟨p, q, hs, S, p0, p1, p2, p3, rfl⟩
      refine WP_has hs ?_
      repeat' (first | refine WP_seq ?_ | refine WP_region ?_ | refine wl_nil ?_ | refine then_normal ?_ | refine inB_normal ?_ | refine then_exit ?_ | refine inB_here ?_ | refine then_ret ?_ | refine WP_ret ?_ | refine WP_skip ?_ | refine WP_exit ?_ | refine WP_block ?_ | (refine g_move ?_; refine st_move rfl ?_) | (refine g_assign ?_; refine st_assign rfl ?_) | (refine g_b_add ?_; (refine st_val rfl (r_addN rfl rfl ?_ ?_) ?_; (first | omega | (simp <;> omega)); (first | omega | (simp <;> omega)))) | (refine g_b_quo ?_; (refine st_val rfl (r_quoN rfl rfl ?_ ?_ ?_) ?_; (first | omega | (simp <;> omega)); (first | omega | (simp <;> omega)); (first | omega | (simp <;> omega)))) | (refine g_b_lss ?_; refine st_val rfl (r_lss rfl rfl) ?_) | (refine g_b_leq ?_; refine st_val rfl (r_leq rfl rfl) ?_) | (refine g_b_gtr ?_; refine st_val rfl (r_gtr rfl rfl) ?_) | (refine g_extract ?_; refine st_val rfl (r_extract rfl rfl) ?_) | (refine g_load ?_; refine st_val rfl (r_loadVarA (i := 0) S rfl rfl rfl rfl) ?_) | (refine g_callV ?_; (refine st_callV rfl (r_call2 rfl rfl rfl) (bounds_spec (hr.mono S.below) hc (by omega) (by omega)) ?_; intro w hb; replace S := S.grow hb; clear hb)) | (refine WP_cond rfl (fun h => ?_) (fun h => ?_) <;> (fail_if_success (have hh : true = true := h)) <;> (try simp only [decide_eq_true_eq, decide_eq_false_iff_not, Bool.not_eq_true', Bool.not_eq_false', Int.not_lt, Int.not_le] at h) <;> (try (exfalso; omega))))
      · refine ⟨⟨_, ?_, (p + q) / 2, q, ⟨rfl, rfl, rfl, rfl, rfl, trivial⟩, S.keep [true], by omega, ?_, by omega, by omega, rfl⟩⟩
        · omega
        · rcases Int.lt_or_le ((p + q) / 2) B with hh | hh
          · exact hh
          · have := bhi _ hh (by omega); omega
      · refine ⟨⟨_, ?_, p, (p + q) / 2, ⟨rfl, rfl, rfl, rfl, rfl, trivial⟩, S.keep [true], by omega, by omega, ?_, by omega, rfl⟩⟩
        · omega
        · rcases Int.lt_or_le ((p + q) / 2) B with hh | hh
          · have := blo _ (by omega) hh; omega
          · exact hh
      · have e : readsI d l t = (0, 0, 50) := by unfold readsI; rw [hF, hB, if_neg (fun h => by omega)]
        rw [e]
        exact end3 (v := .int .i64 _) (v2 := .int .i64 _) (v3 := .int .i64 _) rfl rfl rfl rfl ⟨rfl, S.below⟩
      · obtain rfl : p = B - 1 := by omega
        have e : readsI d l t = (i, B - 1, 0) := by unfold readsI; rw [hF, hB, if_pos ⟨hv, t0, t1, by omega⟩]
        rw [e]
        exact end3 (v := .int .i64 _) (v2 := .int .i64 _) (v3 := .int .i64 _) rfl rfl rfl rfl ⟨rfl, S.below⟩
  · have e : readsI d l t = (0, 0, 50) := by unfold readsI; rw [if_neg (fun h => hg ⟨h.1, h.2.1, h.2.2.1⟩)]
    rw [e]
    by_cases hv : validC d l = true
    · repeat' (first | refine WP_seq ?_ | refine WP_region ?_ | refine wl_nil ?_ | refine then_normal ?_ | refine then_ret ?_ | refine WP_ret ?_ | refine WP_skip ?_ | refine WP_block ?_ | refine WP_condT rfl ?_ | (refine g_guard ?_; refine st_off rfl ?_) | (refine g_move ?_; refine st_move rfl ?_) | (refine g_assign ?_; refine st_assign rfl ?_) | (refine g_pick ?_; first | refine st_pickT rfl rfl ?_ | refine st_pickF rfl rfl ?_) | (refine g_b_lss ?_; refine st_val rfl (r_lss rfl rfl) ?_) | (refine g_b_gtr ?_; refine st_val rfl (r_gtr rfl rfl) ?_) | (refine g_un ?_; refine st_val rfl (r_not rfl) ?_) | (refine g_load ?_; refine st_val rfl (r_loadVarA (i := 0) S rfl rfl rfl rfl) ?_) | (refine g_callV ?_; (refine st_callV rfl (r_call1 rfl rfl) (validR_is (hr.mono S.below) hl hd hv) ?_; intro w hb; replace S := S.grow hb; clear hb)) | (refine g_box ?_; refine st_valE rfl (r_box S rfl) ?_; rintro _ w ⟨b, rfl, -, S'⟩; replace S := S'; clear S') | (refine wl_split rfl rfl (fun h => ?_) (fun h => ?_) <;> (fail_if_success (have hh : true = true := h)) <;> (try simp only [decide_eq_true_eq, decide_eq_false_iff_not, Bool.not_eq_true', Bool.not_eq_false', Int.not_lt, Int.not_le] at h) <;> (try (exfalso; omega))) | (refine WP_cond rfl (fun h => ?_) (fun h => ?_) <;> (fail_if_success (have hh : true = true := h)) <;> (try simp only [decide_eq_true_eq, decide_eq_false_iff_not, Bool.not_eq_true', Bool.not_eq_false', Int.not_lt, Int.not_le] at h) <;> (try (exfalso; omega))))
      all_goals first | (refine end3 (v := .int .i64 _) (v2 := .int .i64 _) (v3 := .int .i64 _) rfl rfl rfl rfl ⟨rfl, S.below⟩) | (exfalso; exact hg ⟨hv, by omega, by omega⟩)
    · have hv' : validC d l = false := by simpa using hv
      repeat' (first | refine WP_seq ?_ | refine WP_region ?_ | refine wl_nil ?_ | refine then_normal ?_ | refine then_ret ?_ | refine WP_ret ?_ | refine WP_condT rfl ?_ | (refine g_guard ?_; refine st_off rfl ?_) | (refine g_move ?_; refine st_move rfl ?_) | (refine g_assign ?_; refine st_assign rfl ?_) | (refine g_pick ?_; refine st_pickT rfl rfl ?_) | (refine g_un ?_; refine st_val rfl (r_not rfl) ?_) | (refine g_load ?_; refine st_val rfl (r_loadVarA (i := 0) S rfl rfl rfl rfl) ?_) | (refine g_callV ?_; (refine st_callV rfl (r_call1 rfl rfl) (validR_is (hr.mono S.below) hl hd hv') ?_; intro w hb; replace S := S.grow hb; clear hb)) | (refine g_box ?_; refine st_valE rfl (r_box S rfl) ?_; rintro _ w ⟨b, rfl, -, S'⟩; replace S := S'; clear S'))
      refine end3 (v := .int .i64 _) (v2 := .int .i64 _) (v3 := .int .i64 _) rfl rfl rfl rfl ⟨rfl, S.below⟩
end Go.Proofs.Ytgphmhpcaeiglaa
