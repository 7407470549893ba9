import Derived.Test.YtfdjnadopniaeaaQ0
namespace Go.Proofs.Ytfdjnadopniaeaa
open Go Go.Gx Go.RowKit
open Kuhn
set_option linter.unusedVariables false
set_option linter.unusedSimpArgs false

theorem size_spec {n : Int} {s : Nat} {w0 : World} (hn : n = s) (hs : s < 2 ^ 60) : CallsV Try.prog 48 #[.int .i64 n] w0 (.int .i64 (popc s)) := by
  have S := St.start w0
  have hs' : s < 1152921504606846976 := hs
  subst hn
  refine CallsV.mk ?_
  refine calls_enter Try.func48 rfl (by intro _ h; first | exact nomatch h.1 | (obtain ⟨_, h, _⟩ := h; exact nomatch h)) Try.ntmps48 rfl ?_
  repeat' (first | refine WP_seq ?_ | refine WP_region ?_ | refine wl_nil ?_ | refine then_normal ?_ | refine WP_block ?_ | (refine g_assign ?_; refine st_assign rfl ?_))
  refine WP_loop (fun k σ w1 => ∃ (x c : Nat), Has σ [(0, .int .i64 x), (3, .int .i64 c)] ∧ St w0 w1 [] ∧ k = x ∧ x ≤ s ∧ c + popc x = popc s ∧ c + x ≤ s) s ⟨s, 0, ⟨rfl, rfl, trivial⟩, S, rfl, by omega, by omega, by omega⟩ ?_
  clear S
  rintro k σ w1 ⟨x, c, hsl, S, hkx, hx, hc, hcx⟩
  subst k
  refine WP_has hsl ?_
  by_cases h0 : 0 < x
  · have hp := popc_pos h0
    repeat' (first | refine WP_seq ?_ | refine WP_region ?_ | refine wl_nil ?_ | refine then_normal ?_ | refine inB_normal ?_ | refine WP_skip ?_ | refine WP_block ?_ | (refine g_move ?_; refine st_move rfl ?_) | (refine g_assign ?_; refine st_assign rfl ?_) | (refine g_b_add ?_; (refine st_val rfl (r_addN rfl rfl ?_ ?_) ?_; (first | omega | (simp <;> omega)); (first | omega | (simp <;> omega)))) | (refine g_b_quo ?_; (refine st_val rfl (r_quoN rfl rfl ?_ ?_ ?_) ?_; (first | omega | (simp <;> omega)); (first | omega | (simp <;> omega)); (first | omega | (simp <;> omega)))) | (refine g_b_rem ?_; (refine st_val rfl (r_remN rfl rfl ?_ ?_) ?_; (first | omega | (simp <;> omega)); (first | omega | (simp <;> omega)))) | (refine g_b_gtr ?_; refine st_val rfl (r_gtr rfl rfl) ?_) | (refine WP_cond rfl (fun h => ?_) (fun h => ?_) <;> (fail_if_success (have hh : true = true := h)) <;> (fail_if_success (have hh : false = false := h)) <;> (try simp only [decide_eq_true_eq, decide_eq_false_iff_not, Bool.not_eq_true', Bool.not_eq_false', Int.not_lt, Int.not_le] at h) <;> (try (exfalso; omega))))
    refine ⟨⟨x / 2, by omega, x / 2, c + x % 2, ⟨?_, ?_, trivial⟩, S, rfl, by omega, by omega, by omega⟩⟩
    · show Value.int .i64 ((x : Int) / 2) = _
      congr 1
    · show Value.int .i64 ((c : Int) + (x : Int) % 2) = _
      congr 1
  · have e : x = 0 := by omega
    subst e
    repeat' (first | refine WP_seq ?_ | refine WP_region ?_ | refine wl_nil ?_ | refine then_normal ?_ | refine then_exit ?_ | refine inB_here ?_ | refine WP_ret ?_ | refine WP_exit ?_ | refine WP_condF rfl ?_ | (refine g_move ?_; refine st_move rfl ?_) | (refine g_assign ?_; refine st_assign rfl ?_) | (refine g_b_gtr ?_; refine st_val rfl (r_gtr rfl rfl) ?_))
    refine end1 rfl rfl ⟨?_, S.below⟩
    show Ending.returned (Value.int .i64 (c : Int)) = _
    congr 2
    simp [popc] at hc
    omega
theorem size_is {n : Int} {s m : Nat} {w : World} (hn : n = s) (hs : s < 2 ^ 60) (h : popc s = m) : CallsV Try.prog 48 #[.int .i64 n] w (.int .i64 (m : Int)) := by rw [← h]; exact size_spec hn hs
theorem first_spec {a b : Int} {s t : Nat} {w0 : World} (ha : a = s) (hb : b = t) (hs : s < 2 ^ 60) (ht : t < 2 ^ 60) : CallsV Try.prog 49 #[.int .i64 a, .int .i64 b] w0 (.bool (firstL (List.range 10) (bit s) (bit t))) := by
  have S := St.start w0
  subst ha
  subst hb
  refine CallsV.mk ?_
  refine calls_enter Try.func49 rfl (by intro _ h; first | exact nomatch h.1 | (obtain ⟨_, h, _⟩ := h; exact nomatch h)) Try.ntmps49 rfl ?_
  repeat' (first | refine WP_seq ?_ | refine WP_region ?_ | refine wl_nil ?_ | refine then_normal ?_ | refine WP_block ?_ | (refine g_assign ?_; refine st_assign rfl ?_))
  refine WP_loop (fun k σ w1 => ∃ (i : Int), Has σ [(0, .int .i64 s), (1, .int .i64 t), (5, .int .i64 i)] ∧ St w0 w1 [] ∧ 0 ≤ i ∧ i ≤ 10 ∧ k = 10 - i.toNat ∧ firstL ((List.range 10).drop i.toNat) (bit s) (bit t) = firstL (List.range 10) (bit s) (bit t)) 10 ⟨0, ⟨rfl, rfl, rfl, trivial⟩, S, by omega, by omega, by omega, rfl⟩ ?_
  clear S
  rintro k σ w1 ⟨i, hsl, S, h0, h1, rfl, hf⟩
  refine WP_has hsl ?_
  by_cases hi : i < 10
  · rw [show List.drop i.toNat (List.range 10) = i.toNat :: (List.range 10).drop (i + 1).toNat from drop_range h0 (by omega), firstL] at hf
    by_cases ha : bit s i.toNat = true <;> by_cases hb : bit t i.toNat = true
    · rw [ha, hb] at hf
      repeat' (first | refine WP_seq ?_ | refine WP_region ?_ | refine wl_nil ?_ | refine then_normal ?_ | refine inB_normal ?_ | refine WP_skip ?_ | refine WP_block ?_ | refine WP_condF rfl ?_ | (refine g_move ?_; refine st_move rfl ?_) | (refine g_assign ?_; refine st_assign rfl ?_) | (refine g_b_add ?_; (refine st_val rfl (r_addN rfl rfl ?_ ?_) ?_; (first | omega | (simp <;> omega)); (first | omega | (simp <;> omega)))) | (refine g_b_neq ?_; refine st_val rfl (r_neqB rfl rfl) ?_) | (refine g_b_lss ?_; refine st_val rfl (r_lss rfl rfl) ?_) | (refine g_callV ?_; first | (refine st_callV rfl (r_call2 rfl rfl rfl) (bit_is rfl hs (Int.toNat_of_nonneg h0).symm (by omega) ha) ?_; intro w hb; replace S := S.grow hb; clear hb) | (refine st_callV rfl (r_call2 rfl rfl rfl) (bit_is rfl ht (Int.toNat_of_nonneg h0).symm (by omega) hb) ?_; intro w hb; replace S := S.grow hb; clear hb)) | (refine WP_cond rfl (fun h => ?_) (fun h => ?_) <;> (fail_if_success (have hh : true = true := h)) <;> (fail_if_success (have hh : false = false := h)) <;> (try simp only [decide_eq_true_eq, decide_eq_false_iff_not, Bool.not_eq_true', Bool.not_eq_false', Int.not_lt, Int.not_le] at h) <;> (try (exfalso; omega))))
      refine ⟨⟨_, ?_, i + 1, ⟨rfl, rfl, rfl, trivial⟩, S, by omega, by omega, rfl, hf⟩⟩
      omega
    · rw [ha, (Bool.eq_false_iff.2 hb)] at hf
      repeat' (first | refine WP_seq ?_ | refine WP_region ?_ | refine wl_nil ?_ | refine then_normal ?_ | refine then_ret ?_ | refine inB_ret ?_ | refine WP_ret ?_ | refine WP_skip ?_ | refine WP_block ?_ | refine WP_condT rfl ?_ | (refine g_move ?_; refine st_move rfl ?_) | (refine g_assign ?_; refine st_assign rfl ?_) | (refine g_b_neq ?_; refine st_val rfl (r_neqB rfl rfl) ?_) | (refine g_b_lss ?_; refine st_val rfl (r_lss rfl rfl) ?_) | (refine g_callV ?_; first | (refine st_callV rfl (r_call2 rfl rfl rfl) (bit_is rfl hs (Int.toNat_of_nonneg h0).symm (by omega) ha) ?_; intro w hb; replace S := S.grow hb; clear hb) | (refine st_callV rfl (r_call2 rfl rfl rfl) (bit_is rfl ht (Int.toNat_of_nonneg h0).symm (by omega) (Bool.eq_false_iff.2 hb)) ?_; intro w hb; replace S := S.grow hb; clear hb)) | (refine WP_cond rfl (fun h => ?_) (fun h => ?_) <;> (fail_if_success (have hh : true = true := h)) <;> (fail_if_success (have hh : false = false := h)) <;> (try simp only [decide_eq_true_eq, decide_eq_false_iff_not, Bool.not_eq_true', Bool.not_eq_false', Int.not_lt, Int.not_le] at h) <;> (try (exfalso; omega))))
      refine end1 rfl rfl ⟨?_, S.below⟩
      rw [← hf]; rfl
    · rw [(Bool.eq_false_iff.2 ha), hb] at hf
      repeat' (first | refine WP_seq ?_ | refine WP_region ?_ | refine wl_nil ?_ | refine then_normal ?_ | refine then_ret ?_ | refine inB_ret ?_ | refine WP_ret ?_ | refine WP_skip ?_ | refine WP_block ?_ | refine WP_condT rfl ?_ | (refine g_move ?_; refine st_move rfl ?_) | (refine g_assign ?_; refine st_assign rfl ?_) | (refine g_b_neq ?_; refine st_val rfl (r_neqB rfl rfl) ?_) | (refine g_b_lss ?_; refine st_val rfl (r_lss rfl rfl) ?_) | (refine g_callV ?_; first | (refine st_callV rfl (r_call2 rfl rfl rfl) (bit_is rfl hs (Int.toNat_of_nonneg h0).symm (by omega) (Bool.eq_false_iff.2 ha)) ?_; intro w hb; replace S := S.grow hb; clear hb) | (refine st_callV rfl (r_call2 rfl rfl rfl) (bit_is rfl ht (Int.toNat_of_nonneg h0).symm (by omega) hb) ?_; intro w hb; replace S := S.grow hb; clear hb)) | (refine WP_cond rfl (fun h => ?_) (fun h => ?_) <;> (fail_if_success (have hh : true = true := h)) <;> (fail_if_success (have hh : false = false := h)) <;> (try simp only [decide_eq_true_eq, decide_eq_false_iff_not, Bool.not_eq_true', Bool.not_eq_false', Int.not_lt, Int.not_le] at h) <;> (try (exfalso; omega))))
      refine end1 rfl rfl ⟨?_, S.below⟩
      rw [← hf]; rfl
    · rw [(Bool.eq_false_iff.2 ha), (Bool.eq_false_iff.2 hb)] at hf
      repeat' (first | refine WP_seq ?_ | refine WP_region ?_ | refine wl_nil ?_ | refine then_normal ?_ | refine inB_normal ?_ | refine WP_skip ?_ | refine WP_block ?_ | refine WP_condF rfl ?_ | (refine g_move ?_; refine st_move rfl ?_) | (refine g_assign ?_; refine st_assign rfl ?_) | (refine g_b_add ?_; (refine st_val rfl (r_addN rfl rfl ?_ ?_) ?_; (first | omega | (simp <;> omega)); (first | omega | (simp <;> omega)))) | (refine g_b_neq ?_; refine st_val rfl (r_neqB rfl rfl) ?_) | (refine g_b_lss ?_; refine st_val rfl (r_lss rfl rfl) ?_) | (refine g_callV ?_; first | (refine st_callV rfl (r_call2 rfl rfl rfl) (bit_is rfl hs (Int.toNat_of_nonneg h0).symm (by omega) (Bool.eq_false_iff.2 ha)) ?_; intro w hb; replace S := S.grow hb; clear hb) | (refine st_callV rfl (r_call2 rfl rfl rfl) (bit_is rfl ht (Int.toNat_of_nonneg h0).symm (by omega) (Bool.eq_false_iff.2 hb)) ?_; intro w hb; replace S := S.grow hb; clear hb)) | (refine WP_cond rfl (fun h => ?_) (fun h => ?_) <;> (fail_if_success (have hh : true = true := h)) <;> (fail_if_success (have hh : false = false := h)) <;> (try simp only [decide_eq_true_eq, decide_eq_false_iff_not, Bool.not_eq_true', Bool.not_eq_false', Int.not_lt, Int.not_le] at h) <;> (try (exfalso; omega))))
      refine ⟨⟨_, ?_, i + 1, ⟨rfl, rfl, rfl, trivial⟩, S, by omega, by omega, rfl, hf⟩⟩
      omega
  · have e : i.toNat = 10 := by omega
    rw [e] at hf
    repeat' (first | refine WP_seq ?_ | refine WP_region ?_ | refine wl_nil ?_ | refine then_normal ?_ | refine then_exit ?_ | refine inB_here ?_ | refine WP_ret ?_ | refine WP_exit ?_ | (refine g_move ?_; refine st_move rfl ?_) | (refine g_assign ?_; refine st_assign rfl ?_) | (refine g_b_lss ?_; refine st_val rfl (r_lss rfl rfl) ?_) | (refine WP_cond rfl (fun h => ?_) (fun h => ?_) <;> (fail_if_success (have hh : true = true := h)) <;> (fail_if_success (have hh : false = false := h)) <;> (try simp only [decide_eq_true_eq, decide_eq_false_iff_not, Bool.not_eq_true', Bool.not_eq_false', Int.not_lt, Int.not_le] at h) <;> (try (exfalso; omega))))
    refine end1 rfl rfl ⟨?_, S.below⟩
    rw [← hf]; rfl
end Go.Proofs.Ytfdjnadopniaeaa
