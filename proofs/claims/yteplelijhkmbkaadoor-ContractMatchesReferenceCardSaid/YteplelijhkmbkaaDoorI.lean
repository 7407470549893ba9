import Derived.Test.YteplelijhkmbkaaDoorH
namespace Go.Proofs.YteplelijhkmbkaaDoor
open Go Go.Gx Go.RowKit
set_option linter.unusedVariables false
set_option linter.unusedSimpArgs false

set_option maxHeartbeats 1000000 in
theorem stable_run {sp : List GSpot} {sv v : Value} {bc N : Nat} {x : Int} {ex : List Ob} {w0 w : World} (S : St w0 w (rowT v idf N :: .var bc 36 [sv] :: ex)) (hr : Rd fGSpot.ty w0 sv sp) (hx : x = N) (hlen : N = sp.length) (hN : N ≤ 1000000000) :
    CallsW Tryd.prog 58 #[v, .int .i64 x, cv51 bc] w (fun _ w' => ∃ g, (tab g N).Perm (tab idf N) ∧ (tab g N).Pairwise (RS (cS sp)) ∧ St w0 w' (rowT v g N :: .var bc 36 [sv] :: ex)) := by
  subst hx
  refine CallsW.mk ?_
  refine calls_enter Tryd.func58 rfl (by intro _ h; first | exact nomatch h.1 | (obtain ⟨_, h, _⟩ := h; exact nomatch h)) Tryd.ntmps58 rfl ?_
  repeat' (first | refine WP_seq ?_ | refine WP_region ?_ | refine wl_nil ?_ | refine then_normal ?_ | refine WP_block ?_ | (refine g_move ?_; refine st_move rfl ?_) | (refine g_assign ?_; refine st_assign rfl ?_))
  refine WP_loop (fun k σ w1 => ∃ (a : Nat) (p q : Int) (g : Nat → Int), Has σ [(0, v), (1, .int .i64 (N : Int)), (2, cv51 bc), (6, .int .i64 20), (7, .int .i64 p), (8, .int .i64 q)] ∧ St w0 w1 (rowT v g N :: .var bc 36 [sv] :: ex) ∧ p = a ∧ q = (a : Int) + 20 ∧ a ≤ N ∧ Fr (cS sp) g 20 a ∧ (∀ k, a ≤ k → g k = k) ∧ (seg g 0 N).Perm (seg idf 0 N) ∧ k = N - a) N ⟨0, _, _, idf, ⟨rfl, rfl, rfl, rfl, rfl, rfl, trivial⟩, S, rfl, rfl, by omega, .zero, fun k _ => rfl, List.Perm.refl _, rfl⟩ ?_
  clear S
  rintro k σ w1 ⟨a, p, q, g, hs, S, hp, hq, haN, hfr, hid, hpm, hk⟩
  refine WP_has hs ?_
  have hown := perm_own hpm
  rw [hlen] at hown
  by_cases hlt : a + 20 ≤ N
  · repeat' (first | refine WP_seq ?_ | refine WP_region ?_ | refine wl_nil ?_ | refine then_normal ?_ | refine WP_skip ?_ | refine WP_block ?_ | (refine g_move ?_; refine st_move rfl ?_) | (refine g_b_leq ?_; refine st_val rfl (r_leq rfl rfl) ?_) | (refine WP_cond rfl (fun h => ?_) (fun h => ?_) <;> (fail_if_success (have hh : true = true := h)) <;> (fail_if_success (have hh : false = false := h)) <;> (try simp only [decide_eq_true_eq, decide_eq_false_iff_not, Bool.not_eq_true', Bool.not_eq_false', Int.not_lt, Int.not_le] at h) <;> (try (exfalso; omega))))
    refine st_callW rfl (r_call4 rfl rfl rfl rfl rfl) (ins_run0 (a := a) (b := a + 20) S hr (by omega) (by omega) (by omega) hlt hN (by rw [hlen]; exact hown) (fun k k' p q r => by rw [hid k (by omega), hid k' (by omega)]; omega)) ?_
    rintro u w ⟨g', hg, S'⟩
    replace S := S'; clear S'
    repeat' (first | refine WP_seq ?_ | refine WP_region ?_ | refine wl_nil ?_ | refine then_normal ?_ | refine inB_normal ?_ | (refine g_move ?_; refine st_move rfl ?_) | (refine g_assign ?_; refine st_assign rfl ?_) | (refine g_b_add ?_; (refine st_val rfl (r_addN rfl rfl ?_ ?_) ?_; (first | omega | (simp <;> omega)); (first | omega | (simp <;> omega)))))
    refine ⟨⟨_, ?_, a + 20, _, _, g', ⟨rfl, rfl, rfl, rfl, rfl, rfl, trivial⟩, S, by omega, by omega, by omega, .snoc (hfr.congr fun k hk => hg.out k (.inl hk)) (hg.run fun k p q => by rw [hid k p]; omega), fun k hk => by rw [hg.out k (.inr hk)]; exact hid k (by omega), (hg.all (by omega) hlt).trans hpm, rfl⟩⟩
    omega
  repeat' (first | refine WP_seq ?_ | refine WP_region ?_ | refine wl_nil ?_ | refine then_normal ?_ | (refine g_move ?_; refine st_move rfl ?_) | (refine g_b_leq ?_; refine st_val rfl (r_leq rfl rfl) ?_))
  refine WP_cond rfl (fun h => absurd (of_decide_eq_true h) (by omega)) (fun h => ?_)
  refine WP_exit ?_
  refine then_exit ?_
  refine then_exit ?_
  refine inB_here ?_
  refine then_normal ?_
  repeat' (first | refine WP_seq ?_ | refine WP_region ?_ | (refine g_move ?_; refine st_move rfl ?_))
  refine st_callW rfl (r_call4 rfl rfl rfl rfl rfl) (ins_run0 (a := a) (b := N) S hr (by omega) (by omega) haN (Nat.le_refl _) hN (by rw [hlen]; exact hown) (fun k k' p q r => by rw [hid k (by omega), hid k' (by omega)]; omega)) ?_
  rintro u w ⟨g', hg, S'⟩
  replace S := S'; clear S'
  have hruns : Runs (cS sp) g' 20 N 0 := (hfr.congr fun k hk => hg.out k (.inl hk)).runs haN (.next (by rw [Nat.min_eq_right (by omega)]; exact hg.run fun k p q => by rw [hid k p]; omega) (.done (by omega)))
  have hpm' := (hg.all haN (Nat.le_refl _)).trans hpm
  clear hpm hfr hid hown hg
  repeat' (first | refine wl_nil ?_ | refine then_normal ?_ | refine WP_block ?_)
  refine WP_loop (fun k σ w1 => ∃ (s : Nat) (p : Int) (g : Nat → Int), Has σ [(0, v), (1, .int .i64 (N : Int)), (2, cv51 bc), (6, .int .i64 p)] ∧ St w0 w1 (rowT v g N :: .var bc 36 [sv] :: ex) ∧ p = s ∧ 20 ≤ s ∧ s ≤ 2 * N + 20 ∧ Runs (cS sp) g s N 0 ∧ (seg g 0 N).Perm (seg idf 0 N) ∧ k = 2 * N + 20 - s) (2 * N) ⟨20, _, g', ⟨rfl, rfl, rfl, rfl, trivial⟩, S, rfl, by omega, by omega, hruns, hpm', by omega⟩ ?_
  clear S hs hruns hpm'
  rintro k σ w1 ⟨s, p, g, hs, S, hp, h20, hsN, hruns, hpm, hk⟩
  refine WP_has hs ?_
  by_cases hlt : s < N
  · repeat' (first | refine WP_seq ?_ | refine WP_region ?_ | refine wl_nil ?_ | refine then_normal ?_ | refine WP_skip ?_ | refine WP_block ?_ | (refine g_move ?_; refine st_move rfl ?_) | (refine g_assign ?_; refine st_assign rfl ?_) | (refine g_b_mul ?_; (refine st_val rfl (r_mulN rfl rfl ?_ ?_) ?_; (first | omega | (simp <;> omega)); (first | omega | (simp <;> omega)))) | (refine g_b_lss ?_; refine st_val rfl (r_lss rfl rfl) ?_) | (refine WP_cond rfl (fun h => ?_) (fun h => ?_) <;> (fail_if_success (have hh : true = true := h)) <;> (fail_if_success (have hh : false = false := h)) <;> (try simp only [decide_eq_true_eq, decide_eq_false_iff_not, Bool.not_eq_true', Bool.not_eq_false', Int.not_lt, Int.not_le] at h) <;> (try (exfalso; omega))))
    refine WP_loop (fun k σ w1 => ∃ (a : Nat) (p q r : Int) (g : Nat → Int), Has σ [(0, v), (1, .int .i64 (N : Int)), (2, cv51 bc), (6, .int .i64 r), (7, .int .i64 p), (8, .int .i64 q)] ∧ St w0 w1 (rowT v g N :: .var bc 36 [sv] :: ex) ∧ r = s ∧ p = a ∧ q = (a : Int) + 2 * s ∧ a ≤ N ∧ Fr (cS sp) g (s + s) a ∧ Runs (cS sp) g s N a ∧ (seg g 0 N).Perm (seg idf 0 N) ∧ k = N - a) N ⟨0, _, _, _, g, ⟨rfl, rfl, rfl, rfl, rfl, rfl, trivial⟩, S, by omega, by omega, by omega, by omega, .zero, hruns, hpm, rfl⟩ ?_
    clear S hs hruns hpm
    rintro k' σ w1 ⟨a, p, q, r, g, hs, S, hr', hp, hq, haN, hfr, hruns, hpm, hk'⟩
    refine WP_has hs ?_
    have hown := perm_own hpm
    rw [hlen] at hown
    by_cases hle : a + (s + s) ≤ N
    · obtain ⟨r1, hruns⟩ := hruns.inv (by omega)
      obtain ⟨r2, hruns⟩ := hruns.inv (by omega)
      rw [Nat.min_eq_left (by omega)] at r1
      rw [Nat.min_eq_left (by omega)] at r2
      repeat' (first | refine WP_seq ?_ | refine WP_region ?_ | refine wl_nil ?_ | refine then_normal ?_ | refine WP_skip ?_ | refine WP_block ?_ | (refine g_move ?_; refine st_move rfl ?_) | (refine g_b_add ?_; (refine st_val rfl (r_addN rfl rfl ?_ ?_) ?_; (first | omega | (simp <;> omega)); (first | omega | (simp <;> omega)))) | (refine g_b_leq ?_; refine st_val rfl (r_leq rfl rfl) ?_) | (refine WP_cond rfl (fun h => ?_) (fun h => ?_) <;> (fail_if_success (have hh : true = true := h)) <;> (fail_if_success (have hh : false = false := h)) <;> (try simp only [decide_eq_true_eq, decide_eq_false_iff_not, Bool.not_eq_true', Bool.not_eq_false', Int.not_lt, Int.not_le] at h) <;> (try (exfalso; omega))))
      refine st_callW rfl (r_call5 rfl rfl rfl rfl rfl rfl) (sym_run (a := a) (m := a + s) (b := a + s + s) S hr (by omega) (by omega) (by omega) (by omega) (by omega) (by omega) hN (by rw [hlen]; exact hown) (r1.two r2)) ?_
      rintro u w ⟨g', hg, S'⟩
      replace S := S'; clear S'
      have hm := r1.merge r2 (by omega) (by omega) hg
      repeat' (first | refine WP_seq ?_ | refine WP_region ?_ | refine wl_nil ?_ | refine then_normal ?_ | refine inB_normal ?_ | (refine g_move ?_; refine st_move rfl ?_) | (refine g_assign ?_; refine st_assign rfl ?_) | (refine g_b_add ?_; (refine st_val rfl (r_addN rfl rfl ?_ ?_) ?_; (first | omega | (simp <;> omega)); (first | omega | (simp <;> omega)))) | (refine g_b_mul ?_; (refine st_val rfl (r_mulN rfl rfl ?_ ?_) ?_; (first | omega | (simp <;> omega)); (first | omega | (simp <;> omega)))))
      refine ⟨⟨_, ?_, a + (s + s), _, _, _, g', ⟨rfl, rfl, rfl, rfl, rfl, rfl, trivial⟩, S, by omega, by omega, by omega, by omega, .snoc (hfr.congr fun k hk => hg.out k (.inl hk)) (by rw [← Nat.add_assoc]; exact hm), by rw [← Nat.add_assoc]; exact hruns.congr fun k hk => hg.out k (.inr hk), (hg.all (by omega) (by omega)).trans hpm, rfl⟩⟩
      omega
    repeat' (first | refine WP_seq ?_ | refine WP_region ?_ | refine wl_nil ?_ | refine then_normal ?_ | (refine g_move ?_; refine st_move rfl ?_) | (refine g_b_leq ?_; refine st_val rfl (r_leq rfl rfl) ?_))
    refine WP_cond rfl (fun h => absurd (of_decide_eq_true h) (by omega)) (fun h => ?_)
    refine WP_exit ?_
    refine then_exit ?_
    refine then_exit ?_
    refine inB_here ?_
    refine then_normal ?_
    by_cases hmN : a + s < N
    · obtain ⟨r1, hruns⟩ := hruns.inv (by omega)
      obtain ⟨r2, hruns⟩ := hruns.inv (by omega)
      rw [Nat.min_eq_left (by omega)] at r1
      rw [Nat.min_eq_right (by omega)] at r2
      repeat' (first | refine WP_seq ?_ | refine WP_region ?_ | refine wl_nil ?_ | refine then_normal ?_ | (refine g_move ?_; refine st_move rfl ?_) | (refine g_assign ?_; refine st_assign rfl ?_) | (refine g_b_add ?_; (refine st_val rfl (r_addN rfl rfl ?_ ?_) ?_; (first | omega | (simp <;> omega)); (first | omega | (simp <;> omega)))) | (refine g_b_lss ?_; refine st_val rfl (r_lss rfl rfl) ?_) | (refine WP_cond rfl (fun h => ?_) (fun h => ?_) <;> (fail_if_success (have hh : true = true := h)) <;> (fail_if_success (have hh : false = false := h)) <;> (try simp only [decide_eq_true_eq, decide_eq_false_iff_not, Bool.not_eq_true', Bool.not_eq_false', Int.not_lt, Int.not_le] at h) <;> (try (exfalso; omega))))
      refine st_callW rfl (r_call5 rfl rfl rfl rfl rfl rfl) (sym_run (a := a) (m := a + s) (b := N) S hr (by omega) (by omega) (by omega) (by omega) (by omega) (by omega) hN (by rw [hlen]; exact hown) (r1.two r2)) ?_
      rintro u w ⟨g', hg, S'⟩
      replace S := S'; clear S'
      have hm := r1.merge r2 (by omega) (by omega) hg
      repeat' (first | refine WP_region ?_ | refine wl_nil ?_ | refine then_normal ?_ | refine inB_normal ?_ | (refine g_move ?_; refine st_move rfl ?_) | (refine g_assign ?_; refine st_assign rfl ?_) | (refine g_b_mul ?_; (refine st_val rfl (r_mulN rfl rfl ?_ ?_) ?_; (first | omega | (simp <;> omega)); (first | omega | (simp <;> omega)))))
      refine ⟨⟨_, ?_, s + s, _, g', ⟨rfl, rfl, rfl, rfl, trivial⟩, S, by omega, by omega, by omega, (hfr.congr fun k hk => hg.out k (.inl hk)).runs haN (.next (by rw [Nat.min_eq_right (by omega)]; exact hm) (.done (by omega))), (hg.all (by omega) (by omega)).trans hpm, rfl⟩⟩
      omega
    · have hlast : Runs (cS sp) g (s + s) N a := by
        by_cases haN' : a < N
        · obtain ⟨r1, _⟩ := hruns.inv haN'
          rw [Nat.min_eq_right (by omega)] at r1
          exact .next (by rw [Nat.min_eq_right (by omega)]; exact r1) (.done (by omega))
        · exact .done (by omega)
      repeat' (first | refine WP_seq ?_ | refine WP_region ?_ | refine wl_nil ?_ | refine then_normal ?_ | refine inB_normal ?_ | refine WP_skip ?_ | (refine g_move ?_; refine st_move rfl ?_) | (refine g_assign ?_; refine st_assign rfl ?_) | (refine g_b_add ?_; (refine st_val rfl (r_addN rfl rfl ?_ ?_) ?_; (first | omega | (simp <;> omega)); (first | omega | (simp <;> omega)))) | (refine g_b_mul ?_; (refine st_val rfl (r_mulN rfl rfl ?_ ?_) ?_; (first | omega | (simp <;> omega)); (first | omega | (simp <;> omega)))) | (refine g_b_lss ?_; refine st_val rfl (r_lss rfl rfl) ?_) | (refine WP_cond rfl (fun h => ?_) (fun h => ?_) <;> (fail_if_success (have hh : true = true := h)) <;> (fail_if_success (have hh : false = false := h)) <;> (try simp only [decide_eq_true_eq, decide_eq_false_iff_not, Bool.not_eq_true', Bool.not_eq_false', Int.not_lt, Int.not_le] at h) <;> (try (exfalso; omega))))
      refine ⟨⟨_, ?_, s + s, _, g, ⟨rfl, rfl, rfl, rfl, trivial⟩, S, by omega, by omega, by omega, hfr.runs haN hlast, hpm, rfl⟩⟩
      omega
  repeat' (first | refine WP_seq ?_ | refine WP_region ?_ | refine wl_nil ?_ | refine then_normal ?_ | (refine g_move ?_; refine st_move rfl ?_) | (refine g_b_lss ?_; refine st_val rfl (r_lss rfl rfl) ?_))
  refine WP_cond rfl (fun h => absurd (of_decide_eq_true h) (by omega)) (fun h => ?_)
  refine WP_exit ?_
  refine then_exit ?_
  refine then_exit ?_
  refine inB_here ?_
  refine end0 rfl ⟨_, rfl, g, ?_, ?_, S⟩
  · rw [← seg_tab, ← seg_tab]; exact hpm
  · rw [← seg_tab]
    by_cases h0 : 0 < N
    · obtain ⟨r1, _⟩ := hruns.inv h0
      rw [Nat.min_eq_right (by omega)] at r1
      exact r1.pw
    · rw [seg_nil (by omega)]; exact List.Pairwise.nil
theorem sort_run {sp : List GSpot} {sv v : Value} {bc N : Nat} {ex : List Ob} {w0 w : World} (S : St w0 w (rowT v idf N :: .var bc 36 [sv] :: ex)) (hr : Rd fGSpot.ty w0 sv sp) (hlen : N = sp.length) (hN : N ≤ 1000000000) :
    CallsW Tryd.prog 50 #[v, cv51 bc] w (fun _ w' => ∃ g, (tab g N).Perm (tab idf N) ∧ (tab g N).Pairwise (RS (cS sp)) ∧ St w0 w' (rowT v g N :: .var bc 36 [sv] :: ex)) := by
  refine CallsW.mk ?_
  have hl := @tab_len idf N
  obtain ⟨A, c, hz⟩ := (S.rdRow (D := fInt .i64) (i := 0) rfl).len; subst hz
  refine calls_enter Tryd.func50 rfl (by intro _ h; first | exact nomatch h.1 | (obtain ⟨_, h, _⟩ := h; exact nomatch h)) Tryd.ntmps50 rfl ?_
  repeat' (first | refine WP_region ?_ | (refine g_move ?_; refine st_move rfl ?_) | (refine g_c_len ?_; refine st_val rfl (r_lenSlice rfl) ?_))
  refine st_callW rfl (r_call3 rfl rfl rfl rfl) (stable_run (N := N) (x := ((tab idf N).length : Int)) S hr (by omega) hlen hN) ?_
  rintro u w h
  refine wl_nil ?_
  exact end0 rfl ⟨_, rfl, h⟩
end Go.Proofs.YteplelijhkmbkaaDoor
