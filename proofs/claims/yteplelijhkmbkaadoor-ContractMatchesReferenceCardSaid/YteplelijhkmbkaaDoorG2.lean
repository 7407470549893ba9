import Derived.Test.YteplelijhkmbkaaDoorG
namespace Go.Proofs.YteplelijhkmbkaaDoor
open Go Go.Gx Go.RowKit
set_option linter.unusedVariables false
set_option linter.unusedSimpArgs false

theorem WP_then_cut {P : Program} {n : Nat} {Q : Post} {σ : Nat → Value} {w : World} {x : Code} {R : (Nat → Value) → World → Prop} (J : (Nat → Value) → World → Prop) (h : WP P n x (thenQ J Q) σ w) (k : ∀ σ' w', J σ' w' → R σ' w') : WP P n x (thenQ R Q) σ w :=
  WP_mono (fun e σ' w' hq => by
    refine ⟨?_⟩
    cases e with
    | normal => exact k _ _ hq.out
    | exit id => exact hq.out
    | goto l => exact hq.out
    | ret => exact hq.out
    | panic c => exact hq.out
    | outgrown => exact hq.out) h
set_option maxHeartbeats 2000000 in
theorem sym_step {sp : List GSpot} {sv : Value} {w0 : World} (hr : Rd fGSpot.ty w0 sv sp) (n : Nat) (ih : SymP sp sv w0 n) : SymP sp sv w0 (n + 1) := by
  intro v bc f N a m b x y z ex w hn S hx hy hz ham hmb hb hN hf hT
  by_cases h1 : m = a + 1
  · exact sym_left hr S hx hy hz ham hmb hb hN hf hT h1
  by_cases h2 : b = m + 1
  · exact sym_right hr S hx hy hz ham hmb hb hN hf hT h1 h2
  subst hx hy hz
  refine CallsW.mk ?_
  refine calls_enter Tryd.func62 rfl (by intro _ h; first | exact nomatch h.1 | (obtain ⟨_, h, _⟩ := h; exact nomatch h)) Tryd.ntmps62 rfl ?_
  obtain ⟨mid, hmid⟩ : ∃ mid, mid = (a + b) / 2 := ⟨_, rfl⟩
  have emid : ((a : Int) + b) / 2 = mid := by omega
  obtain ⟨s0, r0, hsr⟩ : ∃ s0 r0, (mid < m ∧ s0 = mid + m - b ∧ r0 = mid) ∨ (m ≤ mid ∧ s0 = a ∧ r0 = m) := by
    by_cases h : mid < m
    · exact ⟨_, _, .inl ⟨h, rfl, rfl⟩⟩
    · exact ⟨_, _, .inr ⟨by omega, rfl, rfl⟩⟩
  have hl := @tab_len f N
  repeat' (first | refine WP_seq ?_ | refine WP_region ?_ | refine wl_nil ?_ | refine then_normal ?_ | (refine g_move ?_; refine st_move rfl ?_) | (refine g_b_sub ?_; (refine st_val rfl (r_subN rfl rfl ?_ ?_) ?_; (first | omega | (simp <;> omega)); (first | omega | (simp <;> omega)))) | (refine g_b_eql ?_; refine st_val rfl (r_eql rfl rfl) ?_))
  refine WP_cond rfl (fun h => absurd (of_decide_eq_true h) (by omega)) (fun h => ?_)
  repeat' (first | refine WP_seq ?_ | refine WP_region ?_ | refine wl_nil ?_ | refine then_normal ?_ | refine WP_skip ?_ | (refine g_move ?_; refine st_move rfl ?_) | (refine g_b_sub ?_; (refine st_val rfl (r_subN rfl rfl ?_ ?_) ?_; (first | omega | (simp <;> omega)); (first | omega | (simp <;> omega)))) | (refine g_b_eql ?_; refine st_val rfl (r_eql rfl rfl) ?_))
  refine WP_cond rfl (fun h => absurd (of_decide_eq_true h) (by omega)) (fun h => ?_)
  repeat' (first | refine WP_seq ?_ | refine WP_region ?_ | refine wl_nil ?_ | refine then_normal ?_ | refine WP_skip ?_ | (refine g_move ?_; refine st_move rfl ?_) | (refine g_assign ?_; refine st_assign rfl ?_) | (refine g_b_add ?_; (refine st_val rfl (r_addN rfl rfl ?_ ?_) ?_; (first | omega | (simp <;> omega)); (first | omega | (simp <;> omega)))) | (refine g_b_gtr ?_; refine st_val rfl (r_gtr rfl rfl) ?_) | (refine g_b_shr ?_; refine st_val rfl (r_shr1 rfl rfl) ?_) | (refine g_convert ?_; first | (refine st_val rfl (r_convI rfl ?_ ?_) ?_; (first | omega | (simp <;> omega)); (first | omega | (simp <;> omega))) | (refine st_val rfl (r_convU rfl ?_ ?_) ?_; (first | omega | (simp <;> omega)); (first | omega | (simp <;> omega)))))
  refine WP_then_cut (fun σ w1 => ∃ (p q p1 p3 : Int), Has σ [(0, v), (1, .int .i64 (a : Int)), (2, .int .i64 (m : Int)), (3, .int .i64 (b : Int)), (4, cv51 bc), (18, .int .i64 p3), (19, .int .i64 p1), (20, .int .i64 p), (21, .int .i64 q)] ∧ St w0 w1 (rowT v f N :: .var bc 36 [sv] :: ex) ∧ p = s0 ∧ q = r0 ∧ p1 = (mid : Int) + m ∧ p3 = mid) ?_ ?_
  · by_cases hsm : mid < m
    · repeat' (first | refine WP_seq ?_ | refine WP_region ?_ | refine wl_nil ?_ | refine then_normal ?_ | (refine g_move ?_; refine st_move rfl ?_) | (refine g_assign ?_; refine st_assign rfl ?_) | (refine g_b_sub ?_; (refine st_val rfl (r_subN rfl rfl ?_ ?_) ?_; (first | omega | (simp <;> omega)); (first | omega | (simp <;> omega)))) | (refine WP_cond rfl (fun h => ?_) (fun h => ?_) <;> (fail_if_success (have hh : true = true := h)) <;> (fail_if_success (have hh : false = false := h)) <;> (try simp only [decide_eq_true_eq, decide_eq_false_iff_not, Bool.not_eq_true', Bool.not_eq_false', Int.not_lt, Int.not_le] at h) <;> (try (exfalso; omega))))
      exact ⟨_, _, _, _, ⟨rfl, rfl, rfl, rfl, rfl, rfl, rfl, rfl, rfl, trivial⟩, S, by omega, by omega, by omega, by omega⟩
    · repeat' (first | refine WP_seq ?_ | refine WP_region ?_ | refine wl_nil ?_ | refine then_normal ?_ | (refine g_move ?_; refine st_move rfl ?_) | (refine g_assign ?_; refine st_assign rfl ?_) | (refine WP_cond rfl (fun h => ?_) (fun h => ?_) <;> (fail_if_success (have hh : true = true := h)) <;> (fail_if_success (have hh : false = false := h)) <;> (try simp only [decide_eq_true_eq, decide_eq_false_iff_not, Bool.not_eq_true', Bool.not_eq_false', Int.not_lt, Int.not_le] at h) <;> (try (exfalso; omega))))
      exact ⟨_, _, _, _, ⟨rfl, rfl, rfl, rfl, rfl, rfl, rfl, rfl, rfl, trivial⟩, S, by omega, by omega, by omega, by omega⟩
  clear S
  rintro σ w1 ⟨p, q, p1, p3, hs, S, hp, hq, hp1, hp3⟩
  subst hp hq hp1 hp3
  refine WP_has hs ?_
  repeat' (first | refine WP_seq ?_ | refine WP_region ?_ | refine wl_nil ?_ | refine then_normal ?_ | refine WP_block ?_ | (refine g_move ?_; refine st_move rfl ?_) | (refine g_assign ?_; refine st_assign rfl ?_) | (refine g_b_sub ?_; (refine st_val rfl (r_subN rfl rfl ?_ ?_) ?_; (first | omega | (simp <;> omega)); (first | omega | (simp <;> omega)))))
  refine WP_loop (fun k σ w1 => ∃ (s r : Nat) (p q p1 p2 p3 : Int), Has σ [(0, v), (1, .int .i64 (a : Int)), (2, .int .i64 (m : Int)), (3, .int .i64 (b : Int)), (4, cv51 bc), (18, .int .i64 p3), (19, .int .i64 p1), (20, .int .i64 p), (21, .int .i64 q), (22, .int .i64 p2)] ∧ St w0 w1 (rowT v f N :: .var bc 36 [sv] :: ex) ∧ p = s ∧ q = r ∧ p1 = (mid : Int) + m ∧ p2 = (mid : Int) + m - 1 ∧ p3 = mid ∧ s0 ≤ s ∧ s ≤ r ∧ r ≤ r0 ∧ (s0 < s → cS sp (f (mid + m - s)) (f (s - 1)) = false) ∧ (r < r0 → cS sp (f (mid + m - 1 - r)) (f r) = true) ∧ k = r - s) (r0 - s0) ⟨s0, r0, _, _, _, _, _, ⟨rfl, rfl, rfl, rfl, rfl, rfl, rfl, rfl, rfl, rfl, trivial⟩, S, by omega, by omega, by omega, by omega, by omega, by omega, by omega, by omega, fun h => by omega, fun h => by omega, rfl⟩ ?_
  clear S hs
  rintro k σ w1 ⟨s, r, p, q, p1, p2, p3, hs, S, hp, hq, hp1, hp2, hp3, hs0, hsr', hr0, k1, k2, hk⟩
  subst hp hq hp1 hp2 hp3
  refine WP_has hs ?_
  by_cases hlt : s < r
  · have e1 : nth (tab f N) ((mid : Int) + m - 1 - ((s : Int) + r) / 2) = f (mid + m - 1 - (s + r) / 2) := tab_nth (by omega) (by omega)
    have e2 : nth (tab f N) (((s : Int) + r) / 2) = f ((s + r) / 2) := tab_nth (by omega) (by omega)
    have b1 := hf (mid + m - 1 - (s + r) / 2) (by omega)
    have b2 := hf ((s + r) / 2) (by omega)
    by_cases hc : cmpS sp (f (mid + m - 1 - (s + r) / 2)) (f ((s + r) / 2)) < 0
    · repeat' (first | refine WP_seq ?_ | refine WP_region ?_ | refine wl_nil ?_ | refine then_normal ?_ | refine inB_normal ?_ | refine WP_skip ?_ | refine WP_block ?_ | refine WP_draw (by kernel_rfl) (by kernel_rfl) ?_ | (refine ql_nil ?_; intro w hb; replace S := S.grow hb; clear hb) | (refine g_move ?_; refine st_move rfl ?_) | (refine g_assign ?_; refine st_assign rfl ?_) | (refine g_b_add ?_; (refine st_val rfl (r_addN rfl rfl ?_ ?_) ?_; (first | omega | (simp <;> omega)); (first | omega | (simp <;> omega)))) | (refine g_b_lss ?_; refine st_val rfl (r_lss rfl rfl) ?_) | (refine g_b_shr ?_; refine st_val rfl (r_shr1 rfl rfl) ?_) | (refine g_convert ?_; first | (refine st_val rfl (r_convI rfl ?_ ?_) ?_; (first | omega | (simp <;> omega)); (first | omega | (simp <;> omega))) | (refine st_val rfl (r_convU rfl ?_ ?_) ?_; (first | omega | (simp <;> omega)); (first | omega | (simp <;> omega)))) | (refine gq_move ?_; refine q_move rfl ?_) | (refine gq_b_sub ?_; (refine q_val rfl (fun w' hb => r_subN rfl rfl ?_ ?_) ?_; (first | omega | (simp <;> omega)); (first | omega | (simp <;> omega)))) | (refine gq_b_lss ?_; refine q_val rfl (fun w' hb => r_lss rfl rfl) ?_) | (refine gq_un ?_; refine q_val rfl (fun w' hb => r_not rfl) ?_) | (refine gq_indexAddr ?_; (refine q_val rfl (fun w' hb => r_indexAddr ((S.grow hb).rdRow (D := (fInt .i64)) (i := 0) rfl) rfl rfl ?_ ?_) ?_; (first | omega | (simp <;> omega)); (first | omega | (simp <;> omega)))) | (refine gq_load ?_; (refine q_val rfl (fun w' hb => r_loadElem1 ((S.grow hb).rdRow (D := (fInt .i64)) (i := 0) rfl) rfl ?_ ?_ rfl) ?_; (first | omega | (simp <;> omega)); (first | omega | (simp <;> omega)))) | (refine gq_callV ?_; refine q_callV rfl (fun w' hb => r_call2 rfl rfl rfl) (fun w' hb => (cmp_at (S.grow hb) hr (by rw [e1]; exact b1) (by rw [e2]; exact b2))) ?_) | (refine WP_cond rfl (fun h => ?_) (fun h => ?_) <;> (fail_if_success (have hh : true = true := h)) <;> (fail_if_success (have hh : false = false := h)) <;> (try simp only [decide_eq_true_eq, decide_eq_false_iff_not, Bool.not_eq_true', Bool.not_eq_false', Int.not_lt, Int.not_le] at h) <;> (try (exfalso; omega)) <;> (try (exfalso; rw [e1, e2] at h; omega; done))))
      refine ⟨⟨_, ?_, s, (s + r) / 2, _, _, _, _, _, ⟨rfl, rfl, rfl, rfl, rfl, rfl, rfl, rfl, rfl, rfl, trivial⟩, S, by omega, by omega, by omega, by omega, by omega, by omega, by omega, by omega, k1, fun _ => cS_of hc, rfl⟩⟩
      omega
    · repeat' (first | refine WP_seq ?_ | refine WP_region ?_ | refine wl_nil ?_ | refine then_normal ?_ | refine inB_normal ?_ | refine WP_skip ?_ | refine WP_block ?_ | refine WP_draw (by kernel_rfl) (by kernel_rfl) ?_ | (refine ql_nil ?_; intro w hb; replace S := S.grow hb; clear hb) | (refine g_move ?_; refine st_move rfl ?_) | (refine g_assign ?_; refine st_assign rfl ?_) | (refine g_b_add ?_; (refine st_val rfl (r_addN rfl rfl ?_ ?_) ?_; (first | omega | (simp <;> omega)); (first | omega | (simp <;> omega)))) | (refine g_b_lss ?_; refine st_val rfl (r_lss rfl rfl) ?_) | (refine g_b_shr ?_; refine st_val rfl (r_shr1 rfl rfl) ?_) | (refine g_convert ?_; first | (refine st_val rfl (r_convI rfl ?_ ?_) ?_; (first | omega | (simp <;> omega)); (first | omega | (simp <;> omega))) | (refine st_val rfl (r_convU rfl ?_ ?_) ?_; (first | omega | (simp <;> omega)); (first | omega | (simp <;> omega)))) | (refine gq_move ?_; refine q_move rfl ?_) | (refine gq_b_sub ?_; (refine q_val rfl (fun w' hb => r_subN rfl rfl ?_ ?_) ?_; (first | omega | (simp <;> omega)); (first | omega | (simp <;> omega)))) | (refine gq_b_lss ?_; refine q_val rfl (fun w' hb => r_lss rfl rfl) ?_) | (refine gq_un ?_; refine q_val rfl (fun w' hb => r_not rfl) ?_) | (refine gq_indexAddr ?_; (refine q_val rfl (fun w' hb => r_indexAddr ((S.grow hb).rdRow (D := (fInt .i64)) (i := 0) rfl) rfl rfl ?_ ?_) ?_; (first | omega | (simp <;> omega)); (first | omega | (simp <;> omega)))) | (refine gq_load ?_; (refine q_val rfl (fun w' hb => r_loadElem1 ((S.grow hb).rdRow (D := (fInt .i64)) (i := 0) rfl) rfl ?_ ?_ rfl) ?_; (first | omega | (simp <;> omega)); (first | omega | (simp <;> omega)))) | (refine gq_callV ?_; refine q_callV rfl (fun w' hb => r_call2 rfl rfl rfl) (fun w' hb => (cmp_at (S.grow hb) hr (by rw [e1]; exact b1) (by rw [e2]; exact b2))) ?_) | (refine WP_cond rfl (fun h => ?_) (fun h => ?_) <;> (fail_if_success (have hh : true = true := h)) <;> (fail_if_success (have hh : false = false := h)) <;> (try simp only [decide_eq_true_eq, decide_eq_false_iff_not, Bool.not_eq_true', Bool.not_eq_false', Int.not_lt, Int.not_le] at h) <;> (try (exfalso; omega)) <;> (try (exfalso; rw [e1, e2] at h; omega; done))))
      refine ⟨⟨_, ?_, (s + r) / 2 + 1, r, _, _, _, _, _, ⟨rfl, rfl, rfl, rfl, rfl, rfl, rfl, rfl, rfl, rfl, trivial⟩, S, by omega, by omega, by omega, by omega, by omega, by omega, by omega, by omega, fun _ => by rw [show mid + m - ((s + r) / 2 + 1) = mid + m - 1 - (s + r) / 2 by omega]; exact cS_not hc, k2, rfl⟩⟩
      omega
  · have hrs : r = s := by omega
    subst hrs
    obtain ⟨e, he⟩ : ∃ e, e = mid + m - r := ⟨_, rfl⟩
    have q1 : a ≤ r := by omega
    have q2 : r ≤ m := by omega
    have q3 : m ≤ e := by omega
    have q4 : e ≤ b := by omega
    have q5 : mid + m = r + e := by omega
    have K1 : a < r → e < b → cS sp (f e) (f (r - 1)) = false := fun x y => by rw [he]; exact k1 (by omega)
    have K2 : r < m → m < e → cS sp (f (e - 1)) (f r) = true := fun x y => by rw [show e - 1 = mid + m - 1 - r by omega]; exact k2 (by omega)
    repeat' (first | refine WP_seq ?_ | refine WP_region ?_ | refine wl_nil ?_ | refine then_normal ?_ | (refine g_move ?_; refine st_move rfl ?_) | (refine g_b_lss ?_; refine st_val rfl (r_lss rfl rfl) ?_))
    refine WP_cond rfl (fun h => absurd (of_decide_eq_true h) (by omega)) (fun h => ?_)
    refine WP_exit ?_
    refine then_exit ?_
    refine then_exit ?_
    refine inB_here ?_
    refine then_normal ?_
    refine WP_seq_cut (fun σ w1 => ∃ p, Has σ [(0, v), (1, .int .i64 (a : Int)), (2, .int .i64 (m : Int)), (3, .int .i64 (b : Int)), (4, cv51 bc), (18, .int .i64 (mid : Int)), (20, .int .i64 (r : Int)), (24, .int .i64 p)] ∧ p = e ∧ St w0 w1 (rowT v f N :: .var bc 36 [sv] :: ex)) ?_ ?_
    · repeat' (first | refine WP_region ?_ | refine wl_nil ?_ | refine then_normal ?_ | (refine g_move ?_; refine st_move rfl ?_) | (refine g_assign ?_; refine st_assign rfl ?_) | (refine g_b_sub ?_; (refine st_val rfl (r_subN rfl rfl ?_ ?_) ?_; (first | omega | (simp <;> omega)); (first | omega | (simp <;> omega)))))
      exact ⟨_, ⟨rfl, rfl, rfl, rfl, rfl, rfl, rfl, rfl, trivial⟩, by omega, S⟩
    clear S hs
    rintro σ w1 ⟨p, hs, hp, S⟩
    subst hp
    refine WP_has hs ?_
    refine WP_seq_cut (fun σ w1 => Has σ [(0, v), (1, .int .i64 (a : Int)), (3, .int .i64 (b : Int)), (4, cv51 bc), (18, .int .i64 (mid : Int)), (20, .int .i64 (r : Int)), (24, .int .i64 (e : Int))] ∧ St w0 w1 (rowT v (rotF f r m e) N :: .var bc 36 [sv] :: ex)) ?_ ?_
    · by_cases hR : r < m ∧ m < e
      · repeat' (first | refine WP_seq ?_ | refine WP_region ?_ | refine wl_nil ?_ | refine then_normal ?_ | (refine g_move ?_; refine st_move rfl ?_) | (refine g_pick ?_; refine st_pickT rfl rfl ?_) | (refine g_b_lss ?_; refine st_val rfl (r_lss rfl rfl) ?_) | (refine wl_split rfl rfl (fun h => ?_) (fun h => ?_) <;> (fail_if_success (have hh : true = true := h)) <;> (fail_if_success (have hh : false = false := h)) <;> (try simp only [decide_eq_true_eq, decide_eq_false_iff_not, Bool.not_eq_true', Bool.not_eq_false', Int.not_lt, Int.not_le] at h) <;> (try (exfalso; omega))) | (refine WP_cond rfl (fun h => ?_) (fun h => ?_) <;> (fail_if_success (have hh : true = true := h)) <;> (fail_if_success (have hh : false = false := h)) <;> (try simp only [decide_eq_true_eq, decide_eq_false_iff_not, Bool.not_eq_true', Bool.not_eq_false', Int.not_lt, Int.not_le] at h) <;> (try (exfalso; omega))))
        refine st_callW rfl (r_call5 rfl rfl rfl rfl rfl rfl) (rot_at S rfl rfl rfl hR.1 hR.2 (by omega) hN) ?_
        rintro u w S'
        replace S := S'; clear S'
        repeat' (first | refine wl_nil ?_ | refine then_normal ?_)
        exact ⟨⟨rfl, rfl, rfl, rfl, rfl, rfl, rfl, trivial⟩, S⟩
      · rw [← rotF_id q2 q3 (f := f) (by omega)] at S
        repeat' (first | refine WP_seq ?_ | refine WP_region ?_ | refine wl_nil ?_ | refine then_normal ?_ | refine WP_skip ?_ | refine WP_condF rfl ?_ | (refine g_guard ?_; refine st_off rfl ?_) | (refine g_move ?_; refine st_move rfl ?_) | (refine g_pick ?_; first | refine st_pickT rfl rfl ?_ | refine st_pickF rfl rfl ?_) | (refine g_b_lss ?_; refine st_val rfl (r_lss rfl rfl) ?_) | (refine wl_split rfl rfl (fun h => ?_) (fun h => ?_) <;> (fail_if_success (have hh : true = true := h)) <;> (fail_if_success (have hh : false = false := h)) <;> (try simp only [decide_eq_true_eq, decide_eq_false_iff_not, Bool.not_eq_true', Bool.not_eq_false', Int.not_lt, Int.not_le] at h) <;> (try (exfalso; omega))) | (refine WP_cond rfl (fun h => ?_) (fun h => ?_) <;> (fail_if_success (have hh : true = true := h)) <;> (fail_if_success (have hh : false = false := h)) <;> (try simp only [decide_eq_true_eq, decide_eq_false_iff_not, Bool.not_eq_true', Bool.not_eq_false', Int.not_lt, Int.not_le] at h) <;> (try (exfalso; omega))))
        all_goals exact ⟨⟨rfl, rfl, rfl, rfl, rfl, rfl, rfl, trivial⟩, S⟩
    clear S hs
    rintro σ w1 ⟨hs, S⟩
    refine WP_has hs ?_
    have hf2 := rotF_bound q2 q3 (by omega : e ≤ N) hf
    have T1 := two_l q1 q2 q3 q4 q5 hT
    refine WP_seq_cut (fun σ w1 => ∃ g, Has σ [(0, v), (3, .int .i64 (b : Int)), (4, cv51 bc), (18, .int .i64 (mid : Int)), (24, .int .i64 (e : Int))] ∧ Srt (cS sp) (rotF f r m e) g a mid ∧ St w0 w1 (rowT v g N :: .var bc 36 [sv] :: ex)) ?_ ?_
    · by_cases hR : a < r ∧ r < mid
      · repeat' (first | refine WP_seq ?_ | refine WP_region ?_ | refine wl_nil ?_ | refine then_normal ?_ | (refine g_move ?_; refine st_move rfl ?_) | (refine g_pick ?_; refine st_pickT rfl rfl ?_) | (refine g_b_lss ?_; refine st_val rfl (r_lss rfl rfl) ?_) | (refine wl_split rfl rfl (fun h => ?_) (fun h => ?_) <;> (fail_if_success (have hh : true = true := h)) <;> (fail_if_success (have hh : false = false := h)) <;> (try simp only [decide_eq_true_eq, decide_eq_false_iff_not, Bool.not_eq_true', Bool.not_eq_false', Int.not_lt, Int.not_le] at h) <;> (try (exfalso; omega))) | (refine WP_cond rfl (fun h => ?_) (fun h => ?_) <;> (fail_if_success (have hh : true = true := h)) <;> (fail_if_success (have hh : false = false := h)) <;> (try simp only [decide_eq_true_eq, decide_eq_false_iff_not, Bool.not_eq_true', Bool.not_eq_false', Int.not_lt, Int.not_le] at h) <;> (try (exfalso; omega))))
        refine st_callW rfl (r_call5 rfl rfl rfl rfl rfl rfl) (ih (by omega) S rfl rfl rfl hR.1 hR.2 (by omega) hN hf2 T1) ?_
        rintro u w ⟨g, hg, S'⟩
        replace S := S'; clear S'
        repeat' (first | refine wl_nil ?_ | refine then_normal ?_)
        exact ⟨g, ⟨rfl, rfl, rfl, rfl, rfl, trivial⟩, hg, S⟩
      · have hg : Srt (cS sp) (rotF f r m e) (rotF f r m e) a mid := by
          refine Srt.same ?_
          by_cases hx : a < r
          · have : mid = r := by omega
            rw [this]; exact T1.l
          · have : r = a := by omega
            have h := T1.r
            rw [this] at h ⊢; exact h
        repeat' (first | refine WP_seq ?_ | refine WP_region ?_ | refine wl_nil ?_ | refine then_normal ?_ | refine WP_skip ?_ | refine WP_condF rfl ?_ | (refine g_guard ?_; refine st_off rfl ?_) | (refine g_move ?_; refine st_move rfl ?_) | (refine g_pick ?_; first | refine st_pickT rfl rfl ?_ | refine st_pickF rfl rfl ?_) | (refine g_b_lss ?_; refine st_val rfl (r_lss rfl rfl) ?_) | (refine wl_split rfl rfl (fun h => ?_) (fun h => ?_) <;> (fail_if_success (have hh : true = true := h)) <;> (fail_if_success (have hh : false = false := h)) <;> (try simp only [decide_eq_true_eq, decide_eq_false_iff_not, Bool.not_eq_true', Bool.not_eq_false', Int.not_lt, Int.not_le] at h) <;> (try (exfalso; omega))) | (refine WP_cond rfl (fun h => ?_) (fun h => ?_) <;> (fail_if_success (have hh : true = true := h)) <;> (fail_if_success (have hh : false = false := h)) <;> (try simp only [decide_eq_true_eq, decide_eq_false_iff_not, Bool.not_eq_true', Bool.not_eq_false', Int.not_lt, Int.not_le] at h) <;> (try (exfalso; omega))))
        all_goals exact ⟨_, ⟨rfl, rfl, rfl, rfl, rfl, trivial⟩, hg, S⟩
    clear S hs
    rintro σ w1 ⟨g, hs, hg, S⟩
    refine WP_has hs ?_
    have hf3 := hg.bound (by omega : mid ≤ N) hf2
    have T2 := two_r q1 q2 q3 q4 q5 hT (g1 := g) (fun k hk => hg.out k (.inr hk))
    by_cases hR : mid < e ∧ e < b
    · repeat' (first | refine WP_seq ?_ | refine WP_region ?_ | refine wl_nil ?_ | refine then_normal ?_ | (refine g_move ?_; refine st_move rfl ?_) | (refine g_pick ?_; refine st_pickT rfl rfl ?_) | (refine g_b_lss ?_; refine st_val rfl (r_lss rfl rfl) ?_) | (refine wl_split rfl rfl (fun h => ?_) (fun h => ?_) <;> (fail_if_success (have hh : true = true := h)) <;> (fail_if_success (have hh : false = false := h)) <;> (try simp only [decide_eq_true_eq, decide_eq_false_iff_not, Bool.not_eq_true', Bool.not_eq_false', Int.not_lt, Int.not_le] at h) <;> (try (exfalso; omega))) | (refine WP_cond rfl (fun h => ?_) (fun h => ?_) <;> (fail_if_success (have hh : true = true := h)) <;> (fail_if_success (have hh : false = false := h)) <;> (try simp only [decide_eq_true_eq, decide_eq_false_iff_not, Bool.not_eq_true', Bool.not_eq_false', Int.not_lt, Int.not_le] at h) <;> (try (exfalso; omega))))
      refine st_callW rfl (r_call5 rfl rfl rfl rfl rfl rfl) (ih (by omega) S rfl rfl rfl hR.1 hR.2 (by omega) hN hf3 T2) ?_
      rintro u w ⟨g2, hg2, S'⟩
      replace S := S'; clear S'
      refine wl_nil ?_
      exact end0 rfl ⟨_, rfl, g2, sym_fits (cS_sw sp) q1 q2 q3 q4 q5 hT K1 K2 hg hg2, S⟩
    · have hg2 : Srt (cS sp) g g mid b := by
        refine Srt.same ?_
        by_cases hx : mid < e
        · have : b = e := by omega
          rw [this]; exact T2.l
        · have : e = mid := by omega
          have h := T2.r
          rw [this] at h; exact h
      refine WP_mono (Q := fun e σ w1 => e = .normal ∧ St w0 w1 (rowT v g N :: .var bc 36 [sv] :: ex)) (fun e' σ' w' h => ?_) ?_
      · obtain ⟨rfl, S'⟩ := h
        exact end0 rfl ⟨_, rfl, g, sym_fits (cS_sw sp) q1 q2 q3 q4 q5 hT K1 K2 hg hg2, S'⟩
      · repeat' (first | refine WP_seq ?_ | refine WP_region ?_ | refine wl_nil ?_ | refine then_normal ?_ | refine WP_skip ?_ | refine WP_condF rfl ?_ | (refine g_guard ?_; refine st_off rfl ?_) | (refine g_move ?_; refine st_move rfl ?_) | (refine g_pick ?_; first | refine st_pickT rfl rfl ?_ | refine st_pickF rfl rfl ?_) | (refine g_b_lss ?_; refine st_val rfl (r_lss rfl rfl) ?_) | (refine wl_split rfl rfl (fun h => ?_) (fun h => ?_) <;> (fail_if_success (have hh : true = true := h)) <;> (fail_if_success (have hh : false = false := h)) <;> (try simp only [decide_eq_true_eq, decide_eq_false_iff_not, Bool.not_eq_true', Bool.not_eq_false', Int.not_lt, Int.not_le] at h) <;> (try (exfalso; omega))) | (refine WP_cond rfl (fun h => ?_) (fun h => ?_) <;> (fail_if_success (have hh : true = true := h)) <;> (fail_if_success (have hh : false = false := h)) <;> (try simp only [decide_eq_true_eq, decide_eq_false_iff_not, Bool.not_eq_true', Bool.not_eq_false', Int.not_lt, Int.not_le] at h) <;> (try (exfalso; omega))))
        all_goals exact ⟨rfl, S⟩
end Go.Proofs.YteplelijhkmbkaaDoor
