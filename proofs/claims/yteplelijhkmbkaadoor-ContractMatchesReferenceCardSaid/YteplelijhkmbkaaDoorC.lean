import Derived.Test.YteplelijhkmbkaaDoorB
namespace Go.Proofs.YteplelijhkmbkaaDoor
open Go Go.Gx Go.RowKit
set_option linter.unusedVariables false
set_option linter.unusedSimpArgs false

theorem swapR_at {v cv : Value} {f : Nat → Int} {N a b n : Nat} {x y z : Int} {ex : List Ob} {w0 w : World} (S : St w0 w (rowT v f N :: ex)) (hx : x = a) (hy : y = b) (hz : z = n) (hab : a + n ≤ b) (hb : b + n ≤ N) (hN : N ≤ 1000000000) :
    CallsW Tryd.prog 64 #[v, .int .i64 x, .int .i64 y, .int .i64 z, cv] w (fun _ w' => St w0 w' (rowT v (swapF f a b n) N :: ex)) := by
  subst hx hy hz; exact swapR_run S hab hb hN
theorem rot_run {v cv : Value} {f : Nat → Int} {N a m b : Nat} {x y z : Int} {ex : List Ob} {w0 w : World} (S : St w0 w (rowT v f N :: ex)) (hx : x = a) (hy : y = m) (hz : z = b) (ham : a < m) (hmb : m < b) (hb : b ≤ N) (hN : N ≤ 1000000000) :
    CallsW Tryd.prog 63 #[v, .int .i64 x, .int .i64 y, .int .i64 z, cv] w (fun _ w' => St w0 w' (rowT v (rotF f a m b) N :: ex)) := by
  subst hx hy hz
  refine CallsW.mk ?_
  refine calls_enter Tryd.func63 rfl (by intro _ h; first | exact nomatch h.1 | (obtain ⟨_, h, _⟩ := h; exact nomatch h)) Tryd.ntmps63 rfl ?_
  repeat' (first | refine WP_seq ?_ | refine WP_region ?_ | refine wl_nil ?_ | refine then_normal ?_ | refine WP_block ?_ | (refine g_move ?_; refine st_move rfl ?_) | (refine g_assign ?_; refine st_assign rfl ?_) | (refine g_b_sub ?_; (refine st_val rfl (r_subN rfl rfl ?_ ?_) ?_; (first | omega | (simp <;> omega)); (first | omega | (simp <;> omega)))))
  refine WP_loop (fun k σ w1 => ∃ (i j : Nat) (p q : Int) (g : Nat → Int), Has σ [(0, v), (2, .int .i64 (m : Int)), (4, cv), (10, .int .i64 p), (11, .int .i64 q)] ∧ St w0 w1 (rowT v g N :: ex) ∧ p = i ∧ q = j ∧ 1 ≤ i ∧ 1 ≤ j ∧ i ≤ m ∧ m + j ≤ N ∧ rotF g (m - i) m (m + j) = rotF f a m b ∧ k = i + j) (b - a) ⟨m - a, b - m, _, _, f, ⟨rfl, rfl, rfl, rfl, rfl, trivial⟩, S, by omega, by omega, by omega, by omega, by omega, by omega, by congr 1 <;> omega, by omega⟩ ?_
  clear S
  rintro k σ w1 ⟨i, j, p, q, g, hs, S, hp, hq, hi, hj, him, hjN, hr, rfl⟩
  refine WP_has hs ?_
  by_cases hij : i = j
  · repeat' (first | refine WP_seq ?_ | refine WP_region ?_ | refine wl_nil ?_ | refine then_normal ?_ | (refine g_move ?_; refine st_move rfl ?_) | (refine g_b_neq ?_; refine st_val rfl (r_neq rfl rfl) ?_))
    refine WP_cond rfl (fun h => absurd hij (by simp at h; omega)) (fun h => ?_)
    refine WP_exit ?_
    refine then_exit ?_
    refine then_exit ?_
    refine inB_here ?_
    repeat' (first | refine WP_region ?_ | refine then_normal ?_ | (refine g_move ?_; refine st_move rfl ?_) | (refine g_b_sub ?_; (refine st_val rfl (r_subN rfl rfl ?_ ?_) ?_; (first | omega | (simp <;> omega)); (first | omega | (simp <;> omega)))))
    refine st_callW rfl (r_call5 rfl rfl rfl rfl rfl rfl) (swapR_at (a := m - i) (b := m) (n := i) S (by omega) (by omega) (by omega) (by omega) (by omega) hN) ?_
    rintro u w S'
    replace S := S'; clear S'
    refine wl_nil ?_
    subst hij
    refine end0 rfl ⟨_, rfl, ?_⟩
    rw [← hr, ← rot_even g him]; exact S
  · by_cases hlt : j < i
    · repeat' (first | refine WP_seq ?_ | refine WP_region ?_ | refine wl_nil ?_ | refine then_normal ?_ | refine WP_skip ?_ | refine WP_block ?_ | (refine g_move ?_; refine st_move rfl ?_) | (refine g_b_sub ?_; (refine st_val rfl (r_subN rfl rfl ?_ ?_) ?_; (first | omega | (simp <;> omega)); (first | omega | (simp <;> omega)))) | (refine g_b_neq ?_; refine st_val rfl (r_neq rfl rfl) ?_) | (refine g_b_gtr ?_; refine st_val rfl (r_gtr rfl rfl) ?_) | (refine WP_cond rfl (fun h => ?_) (fun h => ?_) <;> (fail_if_success (have hh : true = true := h)) <;> (fail_if_success (have hh : false = false := h)) <;> (try simp only [decide_eq_true_eq, decide_eq_false_iff_not, Bool.not_eq_true', Bool.not_eq_false', Int.not_lt, Int.not_le] at h) <;> (try (exfalso; omega))))
      refine st_callW rfl (r_call5 rfl rfl rfl rfl rfl rfl) (swapR_at (a := m - i) (b := m) (n := j) S (by omega) (by omega) (by omega) (by omega) (by omega) hN) ?_
      rintro u w S'
      replace S := S'; clear S'
      repeat' (first | refine WP_region ?_ | refine wl_nil ?_ | refine then_normal ?_ | refine inB_normal ?_ | (refine g_move ?_; refine st_move rfl ?_) | (refine g_assign ?_; refine st_assign rfl ?_) | (refine g_b_sub ?_; (refine st_val rfl (r_subN rfl rfl ?_ ?_) ?_; (first | omega | (simp <;> omega)); (first | omega | (simp <;> omega)))))
      refine ⟨⟨_, ?_, i - j, j, _, _, _, ⟨rfl, rfl, rfl, rfl, rfl, trivial⟩, S, by omega, by omega, by omega, by omega, by omega, by omega, ?_, rfl⟩⟩
      · omega
      · rw [← hr, ← rot_more g him hlt]; congr 1; omega
    · repeat' (first | refine WP_seq ?_ | refine WP_region ?_ | refine wl_nil ?_ | refine then_normal ?_ | refine WP_skip ?_ | refine WP_block ?_ | (refine g_move ?_; refine st_move rfl ?_) | (refine g_b_add ?_; (refine st_val rfl (r_addN rfl rfl ?_ ?_) ?_; (first | omega | (simp <;> omega)); (first | omega | (simp <;> omega)))) | (refine g_b_sub ?_; (refine st_val rfl (r_subN rfl rfl ?_ ?_) ?_; (first | omega | (simp <;> omega)); (first | omega | (simp <;> omega)))) | (refine g_b_neq ?_; refine st_val rfl (r_neq rfl rfl) ?_) | (refine g_b_gtr ?_; refine st_val rfl (r_gtr rfl rfl) ?_) | (refine WP_cond rfl (fun h => ?_) (fun h => ?_) <;> (fail_if_success (have hh : true = true := h)) <;> (fail_if_success (have hh : false = false := h)) <;> (try simp only [decide_eq_true_eq, decide_eq_false_iff_not, Bool.not_eq_true', Bool.not_eq_false', Int.not_lt, Int.not_le] at h) <;> (try (exfalso; omega))))
      refine st_callW rfl (r_call5 rfl rfl rfl rfl rfl rfl) (swapR_at (a := m - i) (b := m + j - i) (n := i) S (by omega) (by omega) (by omega) (by omega) (by omega) hN) ?_
      rintro u w S'
      replace S := S'; clear S'
      repeat' (first | refine WP_region ?_ | refine wl_nil ?_ | refine then_normal ?_ | refine inB_normal ?_ | (refine g_move ?_; refine st_move rfl ?_) | (refine g_assign ?_; refine st_assign rfl ?_) | (refine g_b_sub ?_; (refine st_val rfl (r_subN rfl rfl ?_ ?_) ?_; (first | omega | (simp <;> omega)); (first | omega | (simp <;> omega)))))
      refine ⟨⟨_, ?_, i, j - i, _, _, _, ⟨rfl, rfl, rfl, rfl, rfl, trivial⟩, S, by omega, by omega, by omega, by omega, by omega, by omega, ?_, rfl⟩⟩
      · omega
      · rw [← hr, ← rot_less g him (by omega)]
end Go.Proofs.YteplelijhkmbkaaDoor
