import Derived.Test.YtfdjnadopniaeaaZ
namespace Go.Proofs.Ytfdjnadopniaeaa
open Go Go.Gx Go.RowKit
open Kuhn
set_option linter.unusedVariables false
set_option linter.unusedSimpArgs false

def mkU (x : GArr4Int) : GUse := ⟨pickI x.a0 3, if pickI x.a1 3 = 0 then 1 + 2 * pickI (x.a1.tdiv 3) 16 else 1, pickI x.a2 8, pickI x.a3 900⟩
def madeU (xs : List GArr4Int) : List GUse := (xs.take 7).map mkU
def okA4 (x : GArr4Int) : Prop := inI x.a0 ∧ inI x.a1 ∧ inI x.a2 ∧ inI x.a3
theorem oneU : ∀ (x : GUse), ∀ u ∈ fGUse.enc x, u.oneCell' = true := fun x u hu => by simp [fGUse, GUse.enc] at hu; rcases hu with rfl | rfl | rfl | rfl <;> rfl
theorem mkU_ok (x : GArr4Int) : okU (mkU x) = true := by
  have p0 := pickI_range (c := x.a0) (n := 3) (by omega)
  have p1 := pickI_range (c := x.a1.tdiv 3) (n := 16) (by omega)
  have p2 := pickI_range (c := x.a2) (n := 8) (by omega)
  have p3 := pickI_range (c := x.a3) (n := 900) (by omega)
  unfold okU mkU
  rw [decide_eq_true_eq]
  dsimp only
  split <;> omega
theorem madeU_ok (xs : List GArr4Int) : validU (madeU xs) = true := by
  unfold validU madeU
  rw [Bool.and_eq_true]
  refine ⟨by simp; omega, ?_⟩
  rw [List.all_eq_true]
  intro g hg
  obtain ⟨x, _, rfl⟩ := List.mem_map.1 hg
  exact mkU_ok x
theorem madeU_len (xs : List GArr4Int) : (madeU xs).length ≤ 7 := by unfold madeU; simp; omega
set_option maxRecDepth 20000 in
set_option maxHeartbeats 16000000 in
theorem madeUses_run {v : Value} {xs : List GArr4Int} {w0 : World} (hr : Rd fGArr4Int.ty w0 v xs) (hx : ∀ x ∈ xs, okA4 x) (hl : xs.length ≤ maxLen) :
    CallsR Try.prog 12 #[v] w0 fun v' w' => NewRow fGUse 46 w0 w' v' (madeU xs) := by
  have S := St.start w0
  simp only [maxLen] at hl
  obtain ⟨A0, c, rfl⟩ := hr.len
  refine CallsR.mk ?_
  refine calls_enter Try.func12 rfl (by intro _ h; first | exact nomatch h.1 | (obtain ⟨_, h, _⟩ := h; exact nomatch h)) Try.ntmps12 rfl ?_
  repeat' (first | refine WP_seq ?_ | refine WP_region ?_ | refine wl_nil ?_ | refine then_normal ?_ | refine WP_block ?_ | (refine g_assign ?_; refine st_assign rfl ?_))
  refine WP_loop (fun k σ w1 => ∃ (i : Int) (va : Value), Has σ [(0, .slice A0 xs.length c), (3, va), (4, .int .i64 i)] ∧ St w0 w1 [rowOb fGUse 46 va ((xs.take i.toNat).map mkU)] ∧ 0 ≤ i ∧ i ≤ xs.length ∧ i ≤ 7 ∧ k = 7 - i.toNat) 7 ⟨0, _, ⟨rfl, rfl, rfl, trivial⟩, S.nilRow fGUse 46, by omega, by omega, by omega, by omega⟩ ?_
  clear S
  rintro k σ w1 ⟨i, va, hsl, S, hi0, hi1, hi8, rfl⟩
  refine WP_has hsl ?_
  by_cases hi : i < xs.length
  · by_cases hi9 : i < 7
    · have hok := hx _ (nth_mem hi0 hi)
      have hn : (xs.take (i + 1).toNat).map mkU = (xs.take i.toNat).map mkU ++ [mkU (nth xs i)] := by rw [take_nth hi0 hi]; simp
      have hln : ((xs.take i.toNat).map mkU).length ≤ 7 := by simp; omega
      obtain ⟨o0, o1, o2, o3⟩ := hok
      unfold inI at o0 o1 o2 o3
      have p0 := pickI_range (c := (nth xs i).a0) (n := 3) (by omega)
      have p1 := pickI_range (c := (nth xs i).a1.tdiv 3) (n := 16) (by omega)
      have p2 := pickI_range (c := (nth xs i).a2) (n := 8) (by omega)
      have p3 := pickI_range (c := (nth xs i).a3) (n := 900) (by omega)
      have t1 := tdiv_bound (x := (nth xs i).a1) (y := 3) (by omega)
      by_cases h1 : pickI (nth xs i).a1 3 = 0
      · repeat' (first | refine WP_seq ?_ | refine WP_region ?_ | refine wl_nil ?_ | refine then_normal ?_ | refine WP_skip ?_ | refine WP_block ?_ | refine WP_drawGrow 19 20 (by kernel_rfl) (by decide +kernel) ?_ | refine wg_nil ?_ | (refine wg_val rfl (r_alloc S) (by rintro _ _ ⟨b, -, h, -⟩; exact h) ?_; rintro _ w ⟨b, rfl, -, S'⟩ w hb; replace S := S'.grow hb; clear S' hb) | (refine ql_nil ?_; intro w hb; replace S := S.grow hb; clear hb) | (refine g_move ?_; refine st_move rfl ?_) | (refine g_pick ?_; refine st_pickT rfl rfl ?_) | (refine g_b_add ?_; (refine st_val rfl (r_addN rfl rfl ?_ ?_) ?_; (first | omega | (simp <;> omega)); (first | omega | (simp <;> omega)))) | (refine g_b_mul ?_; (refine st_val rfl (r_mulN rfl rfl ?_ ?_) ?_; (first | omega | (simp <;> omega)); (first | omega | (simp <;> omega)))) | (refine g_b_quo ?_; (refine st_val rfl (r_quoT rfl rfl ?_ ?_ ?_) ?_; (first | omega | (simp <;> omega)); (first | omega | (simp <;> omega)); (first | omega | (simp <;> omega)))) | (refine g_b_eql ?_; refine st_val rfl (r_eql rfl rfl) ?_) | (refine g_b_lss ?_; refine st_val rfl (r_lss rfl rfl) ?_) | (refine g_c_len ?_; refine st_val rfl (r_lenSlice rfl) ?_) | (refine g_fieldAddr ?_; refine st_val rfl (r_fieldAddrL rfl) ?_) | (refine g_indexAddr ?_; first | (refine st_val rfl (r_indexAddr (hr.mono S.below) rfl rfl ?_ ?_) ?_; (first | omega | (simp <;> omega)); (first | omega | (simp <;> omega))) | (refine st_val rfl (r_indexAddrArrE rfl rfl ?_ ?_) ?_; (first | omega | (simp <;> omega)); (first | omega | (simp <;> omega)))) | (refine g_load ?_; first | (refine st_val rfl (r_loadElemF (hr.mono S.below) rfl ?_ ?_ rfl) ?_; (first | omega | (simp <;> omega)); (first | omega | (simp <;> omega))) | refine st_val rfl (r_loadVarA (i := 1) S rfl rfl rfl rfl) ?_) | (refine g_callV ?_; (refine st_callV rfl (r_call2 rfl rfl rfl) (pickC_spec (by omega) (by omega) (by omega)) ?_; intro w hb; replace S := S.grow hb; clear hb)) | (refine gq_move ?_; refine q_move rfl ?_) | (refine gq_build ?_; refine q_val rfl (fun w' hb => bd46_0_1_2_3 rfl rfl rfl rfl) ?_) | (refine gq_indexAddr ?_; first | (refine q_val rfl (fun w' hb => r_indexAddr (hr.mono (S.grow hb).below) rfl rfl ?_ ?_) ?_; (first | omega | (simp <;> omega)); (first | omega | (simp <;> omega))) | (refine q_val rfl (fun w' hb => r_indexAddrArrE rfl rfl ?_ ?_) ?_; (first | omega | (simp <;> omega)); (first | omega | (simp <;> omega)))) | (refine gq_load ?_; first | (refine q_val rfl (fun w' hb => r_loadElem1 (hr.mono (S.grow hb).below) rfl ?_ ?_ rfl) ?_; (first | omega | (simp <;> omega)); (first | omega | (simp <;> omega))) | (refine q_val rfl (fun w' hb => r_loadElemF (hr.mono (S.grow hb).below) rfl ?_ ?_ rfl) ?_; (first | omega | (simp <;> omega)); (first | omega | (simp <;> omega)))) | (refine gq_callV ?_; refine q_callV rfl (fun w' hb => r_call2 rfl rfl rfl) (fun w' hb => pickC_spec (by omega) (by omega) (by omega)) ?_) | (refine g_store ?_; first | (refine st_skipE rfl (r_storeVar (i := 0) S rfl rfl rfl rfl (of_decide_eq_true rfl) (of_decide_eq_true rfl)) ?_; intro w S'; replace S := S'; clear S') | (refine st_skipE rfl (r_storeVar (i := 1) S rfl rfl rfl rfl (of_decide_eq_true rfl) (of_decide_eq_true rfl)) ?_; intro w S'; replace S := S'; clear S') | (refine st_skipE rfl (r_storeVar (i := 2) S rfl rfl rfl rfl (of_decide_eq_true rfl) (of_decide_eq_true rfl)) ?_; intro w S'; replace S := S'; clear S')) | (refine wl_split rfl rfl (fun h => ?_) (fun h => ?_) <;> (fail_if_success (have hh : true = true := h)) <;> (fail_if_success (have hh : false = false := h)) <;> (try simp only [decide_eq_true_eq, decide_eq_false_iff_not, Bool.not_eq_true', Bool.not_eq_false', Int.not_lt, Int.not_le] at h) <;> (try (exfalso; omega))) | (refine WP_cond rfl (fun h => ?_) (fun h => ?_) <;> (fail_if_success (have hh : true = true := h)) <;> (fail_if_success (have hh : false = false := h)) <;> (try simp only [decide_eq_true_eq, decide_eq_false_iff_not, Bool.not_eq_true', Bool.not_eq_false', Int.not_lt, Int.not_le] at h) <;> (try (exfalso; omega))))
        refine st_valE rfl (r_litF (D := fGUse) [(GUse.mk (pickI (nth xs i).a0 3) (1 + 2 * pickI ((nth xs i).a1.tdiv 3) 16) (pickI (nth xs i).a2 8) (pickI (nth xs i).a3 900))] (fun x => .agg x.enc.toArray) S rfl rfl (fun _ => rfl) rfl (by decide) (by decide)) ?_
        rintro _ w ⟨bl, rfl, -, -, S'⟩; replace S := S'; clear S'
        refine st_valE rfl (r_appendRd (D := fGUse) (i := 0) S rfl (S.rdRow (D := fGUse) (i := 2) rfl) rfl rfl rfl (by decide) oneU (by simp; omega) (by simp; omega)) ?_
        rintro va' w ⟨-, S'⟩; replace S := S'; clear S'
        repeat' (first | refine WP_region ?_ | refine wl_nil ?_ | refine then_normal ?_ | refine inB_normal ?_ | (refine g_move ?_; refine st_move rfl ?_) | (refine g_assign ?_; refine st_assign rfl ?_) | (refine g_b_add ?_; (refine st_val rfl (r_addN rfl rfl ?_ ?_) ?_; (first | omega | (simp <;> omega)); (first | omega | (simp <;> omega)))))
        have hm : mkU (nth xs i) = GUse.mk (pickI (nth xs i).a0 3) (1 + 2 * pickI ((nth xs i).a1.tdiv 3) 16) (pickI (nth xs i).a2 8) (pickI (nth xs i).a3 900) := by simp [mkU, h1]
        have S2 : St w0 w [rowOb fGUse 46 va' ((xs.take i.toNat).map mkU ++ [mkU (nth xs i)])] := by rw [hm]; exact S.keep [true, false, false]
        rw [← hn] at S2
        refine nextI.mk ⟨_, ?_, i + 1, va', ⟨rfl, rfl, rfl, trivial⟩, S2, by omega, by omega, by omega, rfl⟩
        omega
      · repeat' (first | refine WP_seq ?_ | refine WP_region ?_ | refine wl_nil ?_ | refine then_normal ?_ | refine WP_skip ?_ | refine WP_block ?_ | refine WP_drawGrow 19 20 (by kernel_rfl) (by decide +kernel) ?_ | refine wg_nil ?_ | (refine wg_val rfl (r_alloc S) (by rintro _ _ ⟨b, -, h, -⟩; exact h) ?_; rintro _ w ⟨b, rfl, -, S'⟩ w hb; replace S := S'.grow hb; clear S' hb) | (refine ql_nil ?_; intro w hb; replace S := S.grow hb; clear hb) | (refine g_move ?_; refine st_move rfl ?_) | (refine g_pick ?_; refine st_pickT rfl rfl ?_) | (refine g_b_eql ?_; refine st_val rfl (r_eql rfl rfl) ?_) | (refine g_b_lss ?_; refine st_val rfl (r_lss rfl rfl) ?_) | (refine g_c_len ?_; refine st_val rfl (r_lenSlice rfl) ?_) | (refine g_indexAddr ?_; first | (refine st_val rfl (r_indexAddr (hr.mono S.below) rfl rfl ?_ ?_) ?_; (first | omega | (simp <;> omega)); (first | omega | (simp <;> omega))) | (refine st_val rfl (r_indexAddrArrE rfl rfl ?_ ?_) ?_; (first | omega | (simp <;> omega)); (first | omega | (simp <;> omega)))) | (refine g_load ?_; first | (refine st_val rfl (r_loadElemF (hr.mono S.below) rfl ?_ ?_ rfl) ?_; (first | omega | (simp <;> omega)); (first | omega | (simp <;> omega))) | refine st_val rfl (r_loadVarA (i := 1) S rfl rfl rfl rfl) ?_) | (refine g_callV ?_; (refine st_callV rfl (r_call2 rfl rfl rfl) (pickC_spec (by omega) (by omega) (by omega)) ?_; intro w hb; replace S := S.grow hb; clear hb)) | (refine gq_move ?_; refine q_move rfl ?_) | (refine gq_build ?_; refine q_val rfl (fun w' hb => bd46_0_1_2_3 rfl rfl rfl rfl) ?_) | (refine gq_indexAddr ?_; first | (refine q_val rfl (fun w' hb => r_indexAddr (hr.mono (S.grow hb).below) rfl rfl ?_ ?_) ?_; (first | omega | (simp <;> omega)); (first | omega | (simp <;> omega))) | (refine q_val rfl (fun w' hb => r_indexAddrArrE rfl rfl ?_ ?_) ?_; (first | omega | (simp <;> omega)); (first | omega | (simp <;> omega)))) | (refine gq_load ?_; first | (refine q_val rfl (fun w' hb => r_loadElem1 (hr.mono (S.grow hb).below) rfl ?_ ?_ rfl) ?_; (first | omega | (simp <;> omega)); (first | omega | (simp <;> omega))) | (refine q_val rfl (fun w' hb => r_loadElemF (hr.mono (S.grow hb).below) rfl ?_ ?_ rfl) ?_; (first | omega | (simp <;> omega)); (first | omega | (simp <;> omega)))) | (refine gq_callV ?_; refine q_callV rfl (fun w' hb => r_call2 rfl rfl rfl) (fun w' hb => pickC_spec (by omega) (by omega) (by omega)) ?_) | (refine g_store ?_; first | (refine st_skipE rfl (r_storeVar (i := 0) S rfl rfl rfl rfl (of_decide_eq_true rfl) (of_decide_eq_true rfl)) ?_; intro w S'; replace S := S'; clear S') | (refine st_skipE rfl (r_storeVar (i := 1) S rfl rfl rfl rfl (of_decide_eq_true rfl) (of_decide_eq_true rfl)) ?_; intro w S'; replace S := S'; clear S') | (refine st_skipE rfl (r_storeVar (i := 2) S rfl rfl rfl rfl (of_decide_eq_true rfl) (of_decide_eq_true rfl)) ?_; intro w S'; replace S := S'; clear S')) | (refine wl_split rfl rfl (fun h => ?_) (fun h => ?_) <;> (fail_if_success (have hh : true = true := h)) <;> (fail_if_success (have hh : false = false := h)) <;> (try simp only [decide_eq_true_eq, decide_eq_false_iff_not, Bool.not_eq_true', Bool.not_eq_false', Int.not_lt, Int.not_le] at h) <;> (try (exfalso; omega))) | (refine WP_cond rfl (fun h => ?_) (fun h => ?_) <;> (fail_if_success (have hh : true = true := h)) <;> (fail_if_success (have hh : false = false := h)) <;> (try simp only [decide_eq_true_eq, decide_eq_false_iff_not, Bool.not_eq_true', Bool.not_eq_false', Int.not_lt, Int.not_le] at h) <;> (try (exfalso; omega))))
        refine st_valE rfl (r_litF (D := fGUse) [(GUse.mk (pickI (nth xs i).a0 3) (1) (pickI (nth xs i).a2 8) (pickI (nth xs i).a3 900))] (fun x => .agg x.enc.toArray) S rfl rfl (fun _ => rfl) rfl (by decide) (by decide)) ?_
        rintro _ w ⟨bl, rfl, -, -, S'⟩; replace S := S'; clear S'
        refine st_valE rfl (r_appendRd (D := fGUse) (i := 0) S rfl (S.rdRow (D := fGUse) (i := 2) rfl) rfl rfl rfl (by decide) oneU (by simp; omega) (by simp; omega)) ?_
        rintro va' w ⟨-, S'⟩; replace S := S'; clear S'
        repeat' (first | refine WP_region ?_ | refine wl_nil ?_ | refine then_normal ?_ | refine inB_normal ?_ | (refine g_move ?_; refine st_move rfl ?_) | (refine g_assign ?_; refine st_assign rfl ?_) | (refine g_b_add ?_; (refine st_val rfl (r_addN rfl rfl ?_ ?_) ?_; (first | omega | (simp <;> omega)); (first | omega | (simp <;> omega)))))
        have hm : mkU (nth xs i) = GUse.mk (pickI (nth xs i).a0 3) (1) (pickI (nth xs i).a2 8) (pickI (nth xs i).a3 900) := by simp [mkU, h1]
        have S2 : St w0 w [rowOb fGUse 46 va' ((xs.take i.toNat).map mkU ++ [mkU (nth xs i)])] := by rw [hm]; exact S.keep [true, false, false]
        rw [← hn] at S2
        refine nextI.mk ⟨_, ?_, i + 1, va', ⟨rfl, rfl, rfl, trivial⟩, S2, by omega, by omega, by omega, rfl⟩
        omega
    · have e : i.toNat = 7 := by omega
      rw [e] at S
      repeat' (first | refine WP_seq ?_ | refine WP_region ?_ | refine wl_nil ?_ | refine then_normal ?_ | refine then_exit ?_ | refine inB_here ?_ | refine WP_ret ?_ | refine WP_exit ?_ | (refine g_move ?_; refine st_move rfl ?_) | (refine g_assign ?_; refine st_assign rfl ?_) | (refine g_pick ?_; refine st_pickT rfl rfl ?_) | (refine g_b_lss ?_; refine st_val rfl (r_lss rfl rfl) ?_) | (refine g_c_len ?_; refine st_val rfl (r_lenSlice rfl) ?_) | (refine wl_split rfl rfl (fun h => ?_) (fun h => ?_) <;> (fail_if_success (have hh : true = true := h)) <;> (fail_if_success (have hh : false = false := h)) <;> (try simp only [decide_eq_true_eq, decide_eq_false_iff_not, Bool.not_eq_true', Bool.not_eq_false', Int.not_lt, Int.not_le] at h) <;> (try (exfalso; omega))) | (refine WP_cond rfl (fun h => ?_) (fun h => ?_) <;> (fail_if_success (have hh : true = true := h)) <;> (fail_if_success (have hh : false = false := h)) <;> (try simp only [decide_eq_true_eq, decide_eq_false_iff_not, Bool.not_eq_true', Bool.not_eq_false', Int.not_lt, Int.not_le] at h) <;> (try (exfalso; omega))))
      exact end1 rfl rfl ⟨va, rfl, S.below, S.row (i := 0) rfl⟩
  · have e : xs.take i.toNat = xs.take 7 := by rw [List.take_of_length_le (by omega), List.take_of_length_le (by omega)]
    rw [e] at S
    repeat' (first | refine WP_seq ?_ | refine WP_region ?_ | refine wl_nil ?_ | refine then_normal ?_ | refine then_exit ?_ | refine inB_here ?_ | refine WP_ret ?_ | refine WP_exit ?_ | refine WP_condF rfl ?_ | (refine g_guard ?_; refine st_off rfl ?_) | (refine g_move ?_; refine st_move rfl ?_) | (refine g_assign ?_; refine st_assign rfl ?_) | (refine g_pick ?_; refine st_pickF rfl rfl ?_) | (refine g_b_lss ?_; refine st_val rfl (r_lss rfl rfl) ?_) | (refine g_c_len ?_; refine st_val rfl (r_lenSlice rfl) ?_) | (refine wl_split rfl rfl (fun h => ?_) (fun h => ?_) <;> (fail_if_success (have hh : true = true := h)) <;> (fail_if_success (have hh : false = false := h)) <;> (try simp only [decide_eq_true_eq, decide_eq_false_iff_not, Bool.not_eq_true', Bool.not_eq_false', Int.not_lt, Int.not_le] at h) <;> (try (exfalso; omega))))
    exact end1 rfl rfl ⟨va, rfl, S.below, S.row (i := 0) rfl⟩
end Go.Proofs.Ytfdjnadopniaeaa
