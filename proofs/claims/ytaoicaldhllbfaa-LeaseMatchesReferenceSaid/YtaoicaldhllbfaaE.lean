import Derived.Test.YtaoicaldhllbfaaD
namespace Go.Proofs.Ytaoicaldhllbfaa
open Go Go.Gx Go.RowKit
set_option linter.unusedVariables false
set_option linter.unusedSimpArgs false

def cfE (x y : GLease) : Int := cmpI x.Epoch y.Epoch
theorem last1_spec {x y : GLease} {w : World} : CallsV Try.prog 37 #[.agg x.enc.toArray, .agg y.enc.toArray] w (.int .i64 (cfE x y)) := by
  have S := St.start w
  refine CallsV.mk ?_
  refine calls_enter Try.func37 rfl Try.ntmps37 rfl ?_
  repeat' (first | refine WP_seq ?_ | refine WP_region ?_ | refine wl_nil ?_ | refine then_normal ?_ | refine WP_ret ?_ | (refine g_assign ?_; refine st_assign rfl ?_) | (refine g_fieldAddr ?_; refine st_val rfl (r_fieldAddrL rfl) ?_) | (refine g_load ?_; first | refine st_val rfl (r_loadVar (i := 0) S rfl rfl rfl) ?_ | refine st_val rfl (r_loadVar (i := 1) S rfl rfl rfl) ?_) | (refine g_callV ?_; (refine st_callV rfl (r_call2 rfl rfl rfl) (cmp_spec) ?_; intro w hb; replace S := S.grow hb; clear hb)) | (refine g_box ?_; refine st_valE rfl (r_box S rfl) ?_; rintro _ w ⟨b, rfl, -, S'⟩; replace S := S'; clear S'))
  all_goals (exact end1 rfl rfl ⟨rfl, S.below⟩)
theorem greatest_spec {v : Value} {l : List GLease} {w : World} (hr : Rd fGLease.ty w v l) (hl : l.length ≤ 1000000000) :
    CallsV Try.prog 36 #[v, .func (.func 37) #[] #[]] w (.agg (maxL cfE l).enc.toArray) := by
  have S := St.start w
  obtain ⟨A, c, rfl⟩ := hr.len
  refine CallsV.mk ?_
  refine calls_enter Try.func36 rfl Try.ntmps36 rfl ?_
  repeat' (first | refine WP_seq ?_ | refine WP_region ?_ | refine wl_nil ?_ | refine then_normal ?_ | refine WP_ret ?_ | refine WP_skip ?_ | (refine g_move ?_; refine st_move rfl ?_) | (refine g_b_gtr ?_; refine st_val rfl (r_gtr rfl rfl) ?_) | (refine g_c_len ?_; refine st_val rfl (r_lenSlice rfl) ?_) | (refine g_load ?_; refine st_val rfl (r_loadVarA (i := 0) S rfl rfl rfl rfl) ?_) | (refine g_callV ?_; (refine st_callV rfl (r_call2 rfl rfl rfl) (maxFuncL_spec (cl := []) (cf := cfE) (hr.mono S.below) hl (by omega) (fun x y w' hb => last1_spec)) ?_; intro w hb; replace S := S.grow hb; clear hb)) | (refine g_alloc ?_; refine st_valE rfl (r_alloc S) ?_; rintro _ w ⟨b, rfl, -, S'⟩; replace S := S'; clear S') | (refine g_store ?_; first | (refine st_skipE rfl (r_storeVar (i := 0) S rfl rfl rfl rfl (of_decide_eq_true rfl) (of_decide_eq_true rfl)) ?_; intro w S'; replace S := S'; clear S') | (refine st_skipE rfl (r_storeVar (i := 1) S rfl rfl rfl rfl (of_decide_eq_true rfl) (of_decide_eq_true rfl)) ?_; intro w S'; replace S := S'; clear S') | (refine st_skipE rfl (r_storeVar (i := 2) S rfl rfl rfl rfl (of_decide_eq_true rfl) (of_decide_eq_true rfl)) ?_; intro w S'; replace S := S'; clear S')) | (refine WP_cond rfl (fun h => ?_) (fun h => ?_) <;> (fail_if_success (have hh : true = true := h)) <;> (try simp only [decide_eq_true_eq, decide_eq_false_iff_not, Bool.not_eq_true', Bool.not_eq_false', Int.not_lt, Int.not_le] at h) <;> (try (exfalso; omega))))
  · exact endCellA rfl rfl S (i := 0) rfl rfl ⟨rfl, S.below⟩
  · refine endCellA rfl rfl S (i := 0) rfl rfl ⟨?_, S.below⟩
    obtain rfl : l = [] := List.eq_nil_of_length_eq_zero (by omega)
    rfl
def lastL (l : List GLease) : GLease := if (maxL cfE l).Epoch ≤ 0 then zL else maxL cfE l
theorem last_spec {v : Value} {l : List GLease} {w : World} (hr : Rd fGLease.ty w v l) (hl : l.length ≤ 1000000000) :
    CallsV Try.prog 17 #[v] w (.agg (lastL l).enc.toArray) := by
  have S := St.start w
  obtain ⟨A, c, rfl⟩ := hr.len
  refine CallsV.mk ?_
  refine calls_enter Try.func17 rfl Try.ntmps17 rfl ?_
  repeat' (first | refine WP_seq ?_ | refine WP_region ?_ | refine wl_nil ?_ | refine then_normal ?_ | refine then_ret ?_ | refine WP_ret ?_ | refine WP_skip ?_ | (refine g_move ?_; refine st_move rfl ?_) | (refine g_b_leq ?_; refine st_val rfl (r_leq rfl rfl) ?_) | (refine g_build ?_; refine st_val rfl (bd30_ ) ?_) | (refine g_fieldAddr ?_; refine st_val rfl (r_fieldAddrL rfl) ?_) | (refine g_load ?_; first | refine st_val rfl (r_loadVar (i := 1) S rfl rfl rfl) ?_ | refine st_val rfl (r_loadVarA (i := 1) S rfl rfl rfl rfl) ?_) | (refine g_callV ?_; (refine st_callV rfl (r_call2 rfl rfl rfl) (greatest_spec (hr.mono S.below) hl) ?_; intro w hb; replace S := S.grow hb; clear hb)) | (refine g_alloc ?_; refine st_valE rfl (r_alloc S) ?_; rintro _ w ⟨b, rfl, -, S'⟩; replace S := S'; clear S') | (refine g_store ?_; first | (refine st_skipE rfl (r_storeVar (i := 0) S rfl rfl rfl rfl (of_decide_eq_true rfl) (of_decide_eq_true rfl)) ?_; intro w S'; replace S := S'; clear S') | (refine st_skipE rfl (r_storeVar (i := 1) S rfl rfl rfl rfl (of_decide_eq_true rfl) (of_decide_eq_true rfl)) ?_; intro w S'; replace S := S'; clear S') | (refine st_skipE rfl (r_storeVar (i := 2) S rfl rfl rfl rfl (of_decide_eq_true rfl) (of_decide_eq_true rfl)) ?_; intro w S'; replace S := S'; clear S')) | (refine WP_cond rfl (fun h => ?_) (fun h => ?_) <;> (fail_if_success (have hh : true = true := h)) <;> (try simp only [decide_eq_true_eq, decide_eq_false_iff_not, Bool.not_eq_true', Bool.not_eq_false', Int.not_lt, Int.not_le] at h) <;> (try (exfalso; omega))))
  · refine endCellA rfl rfl S (i := 0) rfl rfl ⟨?_, S.below⟩
    unfold lastL; rw [if_pos h]; rfl
  · refine endCellA rfl rfl S (i := 0) rfl rfl ⟨?_, S.below⟩
    unfold lastL; rw [if_neg (by omega)]; rfl
theorem search_spec {g : FuncId} [Enters Try.prog g] {cl : List Value} {p : Int → Bool} {n r : Int} {w : World} (hn : n ≤ 1000000000) (h0 : 0 ≤ r) (h1 : r ≤ n)
    (hlo : ∀ j, 0 ≤ j → j < r → p j = false) (hhi : ∀ j, r ≤ j → j < n → p j = true)
    (hp : ∀ x w', Below w.heap.size w w' → 0 ≤ x → x < n → CallsV Try.prog g (.int .i64 x :: cl).toArray w' (.bool (p x))) :
    CallsV Try.prog 39 #[.int .i64 n, .func (.func g) #[] cl.toArray] w (.int .i64 r) := by
  have S := St.start w
  refine CallsV.mk ?_
  refine calls_enter Try.func39 rfl Try.ntmps39 rfl ?_
  repeat' (first | refine WP_seq ?_ | refine WP_region ?_ | refine wl_nil ?_ | refine then_normal ?_ | refine WP_block ?_ | (refine g_move ?_; refine st_move rfl ?_) | (refine g_assign ?_; refine st_assign rfl ?_))
  refine WP_loop (fun k σ w1 => ∃ i j : Int, Has σ [(0, .int .i64 n), (1, .func (.func g) #[] cl.toArray), (5, .int .i64 i), (6, .int .i64 j)] ∧ St w w1 [] ∧ 0 ≤ i ∧ i ≤ r ∧ r ≤ j ∧ j ≤ n ∧ k = (j - i).toNat) n.toNat ⟨0, n, ⟨rfl, rfl, rfl, rfl, trivial⟩, S, by omega, by omega, by omega, by omega, by omega⟩ ?_
  rintro k σ w1 ⟨i, j, hs, S, hi0, hi1, hj0, hj1, rfl⟩
  refine WP_has hs ?_
  repeat' (first | refine WP_seq ?_ | refine WP_region ?_ | refine wl_nil ?_ | refine then_normal ?_ | refine inB_normal ?_ | refine then_exit ?_ | refine inB_here ?_ | refine WP_ret ?_ | refine WP_skip ?_ | refine WP_exit ?_ | refine WP_block ?_ | (refine g_move ?_; refine st_move rfl ?_) | (refine g_assign ?_; refine st_assign rfl ?_) | (refine g_b_add ?_; (refine st_val rfl (r_addN rfl rfl ?_ ?_) ?_; (first | omega | (simp <;> omega)); (first | omega | (simp <;> omega)))) | (refine g_b_lss ?_; refine st_val rfl (r_lss rfl rfl) ?_) | (refine g_b_shr ?_; refine st_val rfl (r_shr1 rfl rfl) ?_) | (refine g_un ?_; refine st_val rfl (r_not rfl) ?_) | (refine g_convert ?_; first | (refine st_val rfl (r_convI rfl ?_ ?_) ?_; (first | omega | (simp <;> omega)); (first | omega | (simp <;> omega))) | (refine st_val rfl (r_convU rfl ?_ ?_) ?_; (first | omega | (simp <;> omega)); (first | omega | (simp <;> omega)))) | (refine g_callV ?_; (refine st_callV rfl (r_call1 rfl rfl) ((hp _ _ S.below (by omega) (by omega))) ?_; intro w hb; replace S := S.grow hb; clear hb)) | (refine WP_cond rfl (fun h => ?_) (fun h => ?_) <;> (fail_if_success (have hh : true = true := h)) <;> (try simp only [decide_eq_true_eq, decide_eq_false_iff_not, Bool.not_eq_true', Bool.not_eq_false', Int.not_lt, Int.not_le] at h) <;> (try (exfalso; omega))))
  · refine ⟨⟨_, ?_, (i + j) / 2 + 1, j, ⟨rfl, rfl, rfl, rfl, trivial⟩, S, by omega, ?_, by omega, by omega, rfl⟩⟩
    · omega
    · have : ¬ r ≤ (i + j) / 2 := fun hh => by rw [hhi _ hh (by omega)] at h; cases h
      omega
  · refine ⟨⟨_, ?_, i, (i + j) / 2, ⟨rfl, rfl, rfl, rfl, trivial⟩, S, by omega, by omega, ?_, by omega, rfl⟩⟩
    · omega
    · have : ¬ (i + j) / 2 < r := fun hh => by rw [hlo _ (by omega) hh] at h; cases h
      omega
  · refine end1 rfl rfl ⟨ri (by omega), S.below⟩

def pickI (c n : Int) : Int := (if c < 0 then -(c + 1) else c) % n
theorem pickI_range {c n : Int} (hn : 0 < n) : 0 ≤ pickI c n ∧ pickI c n < n := ⟨Int.emod_nonneg _ (by omega), Int.emod_lt_of_pos _ hn⟩
theorem pick_spec {c n : Int} {w : World} (hc0 : -9223372036854775808 ≤ c) (hc : c ≤ 9223372036854775807) (hn : 0 < n) : CallsV Try.prog 19 #[.int .i64 c, .int .i64 n] w (.int .i64 (pickI c n)) := by
  have S := St.start w
  refine CallsV.mk ?_
  refine calls_enter Try.func19 rfl Try.ntmps19 rfl ?_
  repeat' (first | refine WP_seq ?_ | refine WP_region ?_ | refine wl_nil ?_ | refine then_normal ?_ | refine WP_ret ?_ | refine WP_skip ?_ | (refine g_move ?_; refine st_move rfl ?_) | (refine g_assign ?_; refine st_assign rfl ?_) | (refine g_b_add ?_; (refine st_val rfl (r_addN rfl rfl ?_ ?_) ?_; (first | omega | (simp <;> omega)); (first | omega | (simp <;> omega)))) | (refine g_b_rem ?_; (refine st_val rfl (r_remN rfl rfl ?_ ?_) ?_; (first | omega | (simp <;> omega)); (first | omega | (simp <;> omega)))) | (refine g_b_lss ?_; refine st_val rfl (r_lss rfl rfl) ?_) | (refine g_un ?_; (refine st_val rfl (r_negN rfl ?_ ?_) ?_; (first | omega | (simp <;> omega)); (first | omega | (simp <;> omega)))) | (refine WP_cond rfl (fun h => ?_) (fun h => ?_) <;> (fail_if_success (have hh : true = true := h)) <;> (try simp only [decide_eq_true_eq, decide_eq_false_iff_not, Bool.not_eq_true', Bool.not_eq_false', Int.not_lt, Int.not_le] at h) <;> (try (exfalso; omega))))
  · exact end1 rfl rfl ⟨ri (by unfold pickI; rw [if_pos h]), S.below⟩
  · exact end1 rfl rfl ⟨ri (by unfold pickI; rw [if_neg (by omega)]), S.below⟩
theorem pick_is {c n x : Int} {w : World} (hx : pickI c n = x) (hc0 : -9223372036854775808 ≤ c) (hc : c ≤ 9223372036854775807) (hn : 0 < n) : CallsV Try.prog 19 #[.int .i64 c, .int .i64 n] w (.int .i64 x) := by
  rw [← hx]; exact pick_spec hc0 hc hn
theorem rt2 {k k' : IntKind} {a b c d : Int} (h : a = b) (h' : c = d) : Ending.returned (.tuple #[.int k a, .int k' c]) = Ending.returned (.tuple #[.int k b, .int k' d]) := by rw [h, h']
def leastS (d n : Int) : Int := if d < 0 ∨ 100 < d ∨ n < 0 ∨ 10000000 < n then 0 else if 0 < n then 1000 * (n - 1) / (1000 + d) + 1 else 0
def mostS (d n : Int) : Int := if d < 0 ∨ 100 < d ∨ n < 0 ∨ 10000000 < n then 0 else (1000 * (n + 1) - 1) / (1000 - d)
theorem spread_spec {d n : Int} {w : World} : CallsV Try.prog 38 #[.int .i64 d, .int .i64 n] w (.tuple #[.int .i64 (leastS d n), .int .i64 (mostS d n)]) := by
  have S := St.start w
  refine CallsV.mk ?_
  refine calls_enter Try.func38 rfl Try.ntmps38 rfl ?_
  have key : 0 ≤ d → d ≤ 100 → 0 ≤ n → n ≤ 10000000 → 0 < n → 0 ≤ 1000 * (n - 1) / (1000 + d) ∧ 1000 * (n - 1) / (1000 + d) ≤ 1000 * (n - 1) := by
    intro h1 h2 h3 h4 h5
    exact ⟨Int.ediv_nonneg (by omega) (by omega), Int.ediv_le_self _ (by omega)⟩
  have key2 : 0 ≤ d → d ≤ 100 → 0 ≤ n → n ≤ 10000000 → 0 ≤ (1000 * (n + 1) - 1) / (1000 - d) := by
    intro h1 h2 h3 h4
    exact Int.ediv_nonneg (by omega) (by omega)
  repeat' (first | refine WP_seq ?_ | refine WP_region ?_ | refine wl_nil ?_ | refine then_normal ?_ | refine then_ret ?_ | refine WP_ret ?_ | refine WP_skip ?_ | refine WP_condT rfl ?_ | refine WP_draw (by kernel_rfl) (by kernel_rfl) ?_ | (refine ql_nil ?_; intro w hb; replace S := S.grow hb; clear hb) | (refine g_guard ?_; refine st_off rfl ?_) | (refine g_move ?_; refine st_move rfl ?_) | (refine g_assign ?_; refine st_assign rfl ?_) | (refine g_pick ?_; first | refine st_pickT rfl rfl ?_ | refine st_pickF rfl rfl ?_) | (refine g_b_add ?_; (refine st_val rfl (r_addN rfl rfl ?_ ?_) ?_; (first | omega | (simp <;> omega)); (first | omega | (simp <;> omega)))) | (refine g_b_sub ?_; (refine st_val rfl (r_subN rfl rfl ?_ ?_) ?_; (first | omega | (simp <;> omega)); (first | omega | (simp <;> omega)))) | (refine g_b_mul ?_; (refine st_val rfl (r_mulN rfl rfl ?_ ?_) ?_; (first | omega | (simp <;> omega)); (first | omega | (simp <;> omega)))) | (refine g_b_quo ?_; (refine st_val rfl (r_quoN rfl rfl ?_ ?_ ?_) ?_; (first | omega | (simp <;> omega)); (first | omega | (simp <;> omega)); (first | omega | (simp <;> omega)))) | (refine g_b_lss ?_; refine st_val rfl (r_lss rfl rfl) ?_) | (refine g_b_gtr ?_; refine st_val rfl (r_gtr rfl rfl) ?_) | (refine gq_move ?_; refine q_move rfl ?_) | (refine gq_assign ?_; refine q_assign rfl ?_) | (refine gq_b_add ?_; (refine q_val rfl (fun w' hb => r_addN rfl rfl ?_ ?_) ?_; (first | omega | (simp <;> omega)); (first | omega | (simp <;> omega)))) | (refine gq_b_sub ?_; (refine q_val rfl (fun w' hb => r_subN rfl rfl ?_ ?_) ?_; (first | omega | (simp <;> omega)); (first | omega | (simp <;> omega)))) | (refine gq_b_mul ?_; (refine q_val rfl (fun w' hb => r_mulN rfl rfl ?_ ?_) ?_; (first | omega | (simp <;> omega)); (first | omega | (simp <;> omega)))) | (refine gq_b_quo ?_; (refine q_val rfl (fun w' hb => r_quoN rfl rfl ?_ ?_ ?_) ?_; (first | omega | (simp <;> omega)); (first | omega | (simp <;> omega)); (first | omega | (simp <;> omega)))) | (refine wl_split rfl rfl (fun h => ?_) (fun h => ?_) <;> (fail_if_success (have hh : true = true := h)) <;> (try simp only [decide_eq_true_eq, decide_eq_false_iff_not, Bool.not_eq_true', Bool.not_eq_false', Int.not_lt, Int.not_le] at h) <;> (try (exfalso; omega))) | (refine WP_cond rfl (fun h => ?_) (fun h => ?_) <;> (fail_if_success (have hh : true = true := h)) <;> (try simp only [decide_eq_true_eq, decide_eq_false_iff_not, Bool.not_eq_true', Bool.not_eq_false', Int.not_lt, Int.not_le] at h) <;> (try (exfalso; omega))))
  all_goals (refine end2 (v := .int .i64 _) (v2 := .int .i64 _) rfl rfl rfl ⟨rt2 ?_ ?_, S.below⟩)
  all_goals (first | unfold leastS | unfold mostS)
  all_goals ((repeat' split) <;> first | rfl | omega)
def safeP (h k : Int) (m : Int) : Bool := decide (k ≤ mostS h m)
theorem safe1_spec {m h k : Int} {b1 b2 : Nat} {w : World} (hb1 : CellsAt w ⟨b1, 0, none⟩ [.int .i64 h]) (hb2 : CellsAt w ⟨b2, 0, none⟩ [.int .i64 k]) :
    CallsV Try.prog 40 #[.int .i64 m, .pointer (some ⟨b1, 0, none⟩), .pointer (some ⟨b2, 0, none⟩)] w (.bool (safeP h k m)) := by
  have S := St.start w
  refine CallsV.mk ?_
  refine calls_enter Try.func40 rfl Try.ntmps40 rfl ?_
  repeat' (first | refine WP_seq ?_ | refine WP_region ?_ | refine wl_nil ?_ | refine then_normal ?_ | refine WP_ret ?_ | (refine g_move ?_; refine st_move rfl ?_) | (refine g_assign ?_; refine st_assign rfl ?_) | (refine g_b_geq ?_; refine st_val rfl (r_geq rfl rfl) ?_) | (refine g_extract ?_; refine st_val rfl (r_extract rfl rfl) ?_) | (refine g_load ?_; first | refine st_val rfl (r_loadAt (hb1.mono S.below) rfl rfl) ?_ | refine st_val rfl (r_loadAt (hb2.mono S.below) rfl rfl) ?_) | (refine g_callV ?_; (refine st_callV rfl (r_call2 rfl rfl rfl) (spread_spec) ?_; intro w hb; replace S := S.grow hb; clear hb)))
  all_goals (exact end1 rfl rfl ⟨rfl, S.below⟩)
end Go.Proofs.Ytaoicaldhllbfaa
