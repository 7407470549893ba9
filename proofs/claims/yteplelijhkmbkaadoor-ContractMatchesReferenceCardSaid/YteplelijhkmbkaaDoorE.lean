import Derived.Test.YteplelijhkmbkaaDoorD
namespace Go.Proofs.YteplelijhkmbkaaDoor
open Go Go.Gx Go.RowKit
set_option linter.unusedVariables false
set_option linter.unusedSimpArgs false

def cS (sp : List GSpot) (x y : Int) : Bool := decide (cmpS sp x y < 0)
theorem cS_iff {sp : List GSpot} {x y : Int} : cS sp x y = true ↔ (nth sp x).At < (nth sp y).At ∨ ((nth sp x).At = (nth sp y).At ∧ (nth sp x).Contract < (nth sp y).Contract) := by
  unfold cS cmpS orI cmp1
  rw [decide_eq_true_iff]
  (repeat' split) <;> omega
theorem cS_sw (sp : List GSpot) : SW (cS sp) where
  irrefl x := by
    cases h : cS sp x x with
    | false => rfl
    | true => rw [cS_iff] at h; omega
  trans x y z h1 h2 := by rw [cS_iff] at *; omega
  ntrans x y z h1 h2 := by
    cases h : cS sp x z with
    | false => rfl
    | true =>
      have k1 : ¬ cS sp x y = true := by rw [h1]; simp
      have k2 : ¬ cS sp y z = true := by rw [h2]; simp
      rw [cS_iff] at h k1 k2; omega
theorem Srt.bound {c : Int → Int → Bool} {f g : Nat → Int} {a b N : Nat} {m : Int} (h : Srt c f g a b) (hb : b ≤ N) (hf : ∀ k, k < N → 0 ≤ f k ∧ f k < m) : ∀ k, k < N → 0 ≤ g k ∧ g k < m := by
  intro k hk
  by_cases hin : a ≤ k ∧ k < b
  · obtain ⟨k', p, q, e⟩ := mem_seg.1 (h.perm.mem_iff.1 (mem_seg.2 ⟨k, hin.1, hin.2, rfl⟩))
    rw [e]; exact hf k' (by omega)
  · rw [h.out k (by omega)]; exact hf k hk
theorem insF_bound {g : Nat → Int} {j i N : Nat} {m : Int} (hi : i < N) (hg : ∀ k, k < N → 0 ≤ g k ∧ g k < m) : ∀ k, k < N → 0 ≤ insF g j i k ∧ insF g j i k < m := by
  intro k hk; unfold insF
  (repeat' split)
  · exact hg i hi
  · exact hg (k - 1) (by omega)
  · exact hg k hk
theorem Srt.refl {c : Int → Int → Bool} {f : Nat → Int} {a : Nat} : Srt c f f a (a + 1) := ⟨fun _ _ => rfl, List.Perm.refl _, by rw [seg_one]; exact List.pairwise_singleton _ _⟩
/-- The comparator at hand: its cell, and the spots. -/
abbrev cv51 (bc : Nat) : Value := .func (.func 51) #[] [.pointer (some ⟨bc, 0, none⟩)].toArray
theorem cmp_at {sp : List GSpot} {sv : Value} {bc : Nat} {x y : Int} {f : Nat → Int} {N : Nat} {v : Value} {ex : List Ob} {w0 w : World} (S : St w0 w (rowT v f N :: .var bc 36 [sv] :: ex)) (hr : Rd fGSpot.ty w0 sv sp) (hx : 0 ≤ x ∧ x < sp.length) (hy : 0 ≤ y ∧ y < sp.length) :
    CallsV Tryd.prog 51 (.int .i64 x :: .int .i64 y :: [.pointer (some ⟨bc, 0, none⟩)]).toArray w (.int .i64 (cmpS sp x y)) :=
  cmp_spec (S.var (i := 1) rfl) (hr.mono S.below) hx hy
theorem ins_run {sp : List GSpot} {sv v : Value} {bc : Nat} {f : Nat → Int} {N a b : Nat} {x y : Int} {ex : List Ob} {w0 w : World} (S : St w0 w (rowT v f N :: .var bc 36 [sv] :: ex)) (hr : Rd fGSpot.ty w0 sv sp) (hx : x = a) (hy : y = b) (hab : a < b) (hb : b ≤ N) (hN : N ≤ 1000000000)
    (hf : ∀ k, k < N → 0 ≤ f k ∧ f k < sp.length) (hasc : ∀ k k', a ≤ k → k < k' → k' < b → f k < f k') :
    CallsW Tryd.prog 61 #[v, .int .i64 x, .int .i64 y, cv51 bc] w (fun _ w' => ∃ g, Srt (cS sp) f g a b ∧ St w0 w' (rowT v g N :: .var bc 36 [sv] :: ex)) := by
  subst hx hy
  refine CallsW.mk ?_
  refine calls_enter Tryd.func61 rfl (by intro _ h; first | exact nomatch h.1 | (obtain ⟨_, h, _⟩ := h; exact nomatch h)) Tryd.ntmps61 rfl ?_
  repeat' (first | refine WP_seq ?_ | refine WP_region ?_ | refine wl_nil ?_ | refine then_normal ?_ | refine WP_block ?_ | (refine g_move ?_; refine st_move rfl ?_) | (refine g_assign ?_; refine st_assign rfl ?_) | (refine g_b_add ?_; (refine st_val rfl (r_addN rfl rfl ?_ ?_) ?_; (first | omega | (simp <;> omega)); (first | omega | (simp <;> omega)))))
  refine WP_loop (fun k σ w1 => ∃ (i : Nat) (p : Int) (g : Nat → Int), Has σ [(0, v), (1, .int .i64 (a : Int)), (2, .int .i64 (b : Int)), (3, cv51 bc), (8, .int .i64 p)] ∧ St w0 w1 (rowT v g N :: .var bc 36 [sv] :: ex) ∧ p = i ∧ a < i ∧ i ≤ b ∧ Srt (cS sp) f g a i ∧ k = b - i) (b - (a + 1)) ⟨a + 1, _, f, ⟨rfl, rfl, rfl, rfl, rfl, trivial⟩, S, by omega, by omega, by omega, Srt.refl, by omega⟩ ?_
  clear S
  rintro k σ w1 ⟨i, p, g, hs, S, rfl, hai, hib, hg, rfl⟩
  refine WP_has hs ?_
  by_cases hi : i < b
  · have hgb := hg.bound (by omega) hf
    repeat' (first | refine WP_seq ?_ | refine WP_region ?_ | refine wl_nil ?_ | refine then_normal ?_ | refine WP_skip ?_ | refine WP_block ?_ | (refine g_move ?_; refine st_move rfl ?_) | (refine g_assign ?_; refine st_assign rfl ?_) | (refine g_b_lss ?_; refine st_val rfl (r_lss rfl rfl) ?_) | (refine WP_cond rfl (fun h => ?_) (fun h => ?_) <;> (fail_if_success (have hh : true = true := h)) <;> (fail_if_success (have hh : false = false := h)) <;> (try simp only [decide_eq_true_eq, decide_eq_false_iff_not, Bool.not_eq_true', Bool.not_eq_false', Int.not_lt, Int.not_le] at h) <;> (try (exfalso; omega))))
    refine WP_loop (fun k σ w1 => ∃ (j : Nat) (q : Int), Has σ [(0, v), (1, .int .i64 (a : Int)), (2, .int .i64 (b : Int)), (3, cv51 bc), (8, .int .i64 (i : Int)), (9, .int .i64 q)] ∧ St w0 w1 (rowT v (insF g j i) N :: .var bc 36 [sv] :: ex) ∧ q = j ∧ a ≤ j ∧ j ≤ i ∧ (∀ k, j ≤ k → k < i → cS sp (g i) (g k) = true) ∧ k = j) i ⟨i, _, ⟨rfl, rfl, rfl, rfl, rfl, rfl, trivial⟩, by rw [insF_start]; exact S, rfl, by omega, by omega, fun k p q => by omega, rfl⟩ ?_
    clear S hs
    rintro k σ w1 ⟨j, q, hs, S, rfl, haj, hji, hall, hkj⟩
    refine WP_has hs ?_
    have hib' := insF_bound (j := j) (by omega : i < N) hgb
    have hl := @tab_len (insF g j i) N
    by_cases haj' : a < j
    · have e1 : nth (tab (insF g j i) N) (j : Int) = g i := by rw [tab_nth (i := j) (by omega) rfl]; unfold insF; rw [if_pos rfl]
      have e2 : nth (tab (insF g j i) N) ((j : Int) - 1) = g (j - 1) := by rw [tab_nth (i := j - 1) (by omega) (by omega)]; unfold insF; rw [if_neg (by omega), if_neg (by omega)]
      have b1 := hgb i (by omega)
      have b2 := hgb (j - 1) (by omega)
      by_cases hc : cmpS sp (g i) (g (j - 1)) < 0
      · repeat' (first | refine WP_seq ?_ | refine then_normal ?_ | refine WP_skip ?_ | refine WP_block ?_ | (refine Pm.WP_drawPerm [0,1,5,6,7,8,9,10,11,12,13] [2,3,4] [14,15,16,17] (by kernel_rfl) (by decide +kernel) (by decide +kernel) ?_; intro w hb; replace S := S.grow hb; clear hb) | refine WP_draw (by kernel_rfl) (by kernel_rfl) ?_ | (refine ql_nil ?_; intro w hb; replace S := S.grow hb; clear hb) | (refine g_indexAddr ?_; (refine st_val rfl (r_indexAddr (S.rdRow (D := (fInt .i64)) (i := 0) rfl) rfl rfl ?_ ?_) ?_; (first | omega | (simp <;> omega)); (first | omega | (simp <;> omega)))) | (refine gq_move ?_; refine q_move rfl ?_) | (refine gq_pick ?_; refine q_pickT rfl rfl ?_) | (refine gq_b_sub ?_; (refine q_val rfl (fun w' hb => r_subN rfl rfl ?_ ?_) ?_; (first | omega | (simp <;> omega)); (first | omega | (simp <;> omega)))) | (refine gq_b_lss ?_; refine q_val rfl (fun w' hb => r_lss rfl rfl) ?_) | (refine gq_b_gtr ?_; refine q_val rfl (fun w' hb => r_gtr rfl rfl) ?_) | (refine gq_indexAddr ?_; (refine q_val rfl (fun w' hb => r_indexAddr ((S.grow hb).rdRow (D := (fInt .i64)) (i := 0) rfl) rfl rfl ?_ ?_) ?_; (first | omega | (simp <;> omega)); (first | omega | (simp <;> omega)))) | (refine gq_load ?_; (refine q_val rfl (fun w' hb => r_loadElem1 ((S.grow hb).rdRow (D := (fInt .i64)) (i := 0) rfl) rfl ?_ ?_ rfl) ?_; (first | omega | (simp <;> omega)); (first | omega | (simp <;> omega)))) | (refine gq_callV ?_; refine q_callV rfl (fun w' hb => r_call2 rfl rfl rfl) (fun w' hb => (cmp_at (S.grow hb) hr (by rw [e1]; exact b1) (by rw [e2]; exact b2))) ?_) | (refine Pm.qp_nil ?_; intro w hb; replace S := S.grow hb; clear hb) | (refine Pm.qp_val rfl (fun w' => r_subN rfl rfl ?_ ?_) ?_; omega; omega) | (refine Pm.qp_val rfl (fun w' => ⟨rfl⟩) ?_) | (refine ql_split rfl rfl (fun h => ?_) (fun h => ?_) <;> (fail_if_success (have hh : true = true := h)) <;> (fail_if_success (have hh : false = false := h)) <;> (try simp only [decide_eq_true_eq, decide_eq_false_iff_not, Bool.not_eq_true', Bool.not_eq_false', Int.not_lt, Int.not_le] at h) <;> (try (exfalso; omega)) <;> (try (exfalso; rw [e1, e2] at h; omega; done))) | (refine WP_cond rfl (fun h => ?_) (fun h => ?_) <;> (fail_if_success (have hh : true = true := h)) <;> (fail_if_success (have hh : false = false := h)) <;> (try simp only [decide_eq_true_eq, decide_eq_false_iff_not, Bool.not_eq_true', Bool.not_eq_false', Int.not_lt, Int.not_le] at h) <;> (try (exfalso; omega)) <;> (try (exfalso; rw [e1, e2] at h; omega; done))))
        refine st_skipE rfl (r_storeElem (i := 0) (D := fInt .i64) S rfl rfl rfl rfl (fun c hc => by cases List.mem_singleton.1 hc; rfl) (by omega) (by omega)) ?_
        intro w S'
        replace S : St w0 w (rowT v (fun k => if k = j then g (j - 1) else insF g j i k) N :: .var bc 36 [sv] :: ex) := by
          rw [tab_put (i := j) (by omega) (by omega), e2] at S'; exact S'
        clear S'
        have hl := @tab_len (fun k => if k = j then g (j - 1) else insF g j i k) N
        repeat' ((refine g_indexAddr ?_; (refine st_val rfl (r_indexAddr (S.rdRow (D := (fInt .i64)) (i := 0) rfl) rfl rfl ?_ ?_) ?_; (first | omega | (simp <;> omega)); (first | omega | (simp <;> omega)))))
        refine st_skipE rfl (r_storeElem (i := 0) (D := fInt .i64) S rfl rfl rfl rfl (fun c hc => by cases List.mem_singleton.1 hc; rfl) (by omega) (by omega)) ?_
        intro w S'
        replace S : St w0 w (rowT v (insF g (j - 1) i) N :: .var bc 36 [sv] :: ex) := by
          rw [tab_put (i := j - 1) (by omega) (by omega), e1] at S'
          refine S'.eqos (congrArg (fun o => o :: Ob.var bc 36 [sv] :: ex) (rowT_ext fun k hk => ?_))
          unfold insF
          (repeat' split) <;> first | rfl | omega | (congr 1; omega)
        clear S'
        repeat' (first | refine WP_region ?_ | refine wl_nil ?_ | refine then_normal ?_ | refine inB_normal ?_ | (refine g_move ?_; refine st_move rfl ?_) | (refine g_assign ?_; refine st_assign rfl ?_) | (refine g_b_sub ?_; (refine st_val rfl (r_subN rfl rfl ?_ ?_) ?_; (first | omega | (simp <;> omega)); (first | omega | (simp <;> omega)))))
        refine ⟨⟨_, ?_, j - 1, _, ⟨rfl, rfl, rfl, rfl, rfl, rfl, trivial⟩, S, by omega, by omega, by omega, fun k' p q => ?_, rfl⟩⟩
        · omega
        · by_cases e : k' = j - 1
          · subst e; unfold cS; exact decide_eq_true hc
          · exact hall k' (by omega) q
      · repeat' (first | refine WP_seq ?_ | refine WP_region ?_ | refine wl_nil ?_ | refine then_normal ?_ | refine inB_normal ?_ | refine then_exit ?_ | refine inB_here ?_ | refine WP_exit ?_ | refine WP_draw (by kernel_rfl) (by kernel_rfl) ?_ | (refine ql_nil ?_; intro w hb; replace S := S.grow hb; clear hb) | (refine g_move ?_; refine st_move rfl ?_) | (refine g_assign ?_; refine st_assign rfl ?_) | (refine g_b_add ?_; (refine st_val rfl (r_addN rfl rfl ?_ ?_) ?_; (first | omega | (simp <;> omega)); (first | omega | (simp <;> omega)))) | (refine gq_move ?_; refine q_move rfl ?_) | (refine gq_pick ?_; refine q_pickT rfl rfl ?_) | (refine gq_b_sub ?_; (refine q_val rfl (fun w' hb => r_subN rfl rfl ?_ ?_) ?_; (first | omega | (simp <;> omega)); (first | omega | (simp <;> omega)))) | (refine gq_b_lss ?_; refine q_val rfl (fun w' hb => r_lss rfl rfl) ?_) | (refine gq_b_gtr ?_; refine q_val rfl (fun w' hb => r_gtr rfl rfl) ?_) | (refine gq_indexAddr ?_; (refine q_val rfl (fun w' hb => r_indexAddr ((S.grow hb).rdRow (D := (fInt .i64)) (i := 0) rfl) rfl rfl ?_ ?_) ?_; (first | omega | (simp <;> omega)); (first | omega | (simp <;> omega)))) | (refine gq_load ?_; (refine q_val rfl (fun w' hb => r_loadElem1 ((S.grow hb).rdRow (D := (fInt .i64)) (i := 0) rfl) rfl ?_ ?_ rfl) ?_; (first | omega | (simp <;> omega)); (first | omega | (simp <;> omega)))) | (refine gq_callV ?_; refine q_callV rfl (fun w' hb => r_call2 rfl rfl rfl) (fun w' hb => (cmp_at (S.grow hb) hr (by rw [e1]; exact b1) (by rw [e2]; exact b2))) ?_) | (refine ql_split rfl rfl (fun h => ?_) (fun h => ?_) <;> (fail_if_success (have hh : true = true := h)) <;> (fail_if_success (have hh : false = false := h)) <;> (try simp only [decide_eq_true_eq, decide_eq_false_iff_not, Bool.not_eq_true', Bool.not_eq_false', Int.not_lt, Int.not_le] at h) <;> (try (exfalso; omega)) <;> (try (exfalso; rw [e1, e2] at h; omega; done))) | (refine WP_cond rfl (fun h => ?_) (fun h => ?_) <;> (fail_if_success (have hh : true = true := h)) <;> (fail_if_success (have hh : false = false := h)) <;> (try simp only [decide_eq_true_eq, decide_eq_false_iff_not, Bool.not_eq_true', Bool.not_eq_false', Int.not_lt, Int.not_le] at h) <;> (try (exfalso; omega)) <;> (try (exfalso; rw [e1, e2] at h; omega; done))))
        refine ⟨⟨_, ?_, i + 1, _, _, ⟨rfl, rfl, rfl, rfl, rfl, trivial⟩, S, by omega, by omega, by omega, ins_step (cS_sw sp) hai hg (fun k p q => hasc k i p q hi) haj hji (fun _ => by unfold cS; exact decide_eq_false hc) hall, rfl⟩⟩
        omega
    · repeat' (first | refine WP_seq ?_ | refine WP_region ?_ | refine wl_nil ?_ | refine then_normal ?_ | refine inB_normal ?_ | refine then_exit ?_ | refine inB_here ?_ | refine WP_exit ?_ | refine WP_condF rfl ?_ | refine WP_draw (by kernel_rfl) (by kernel_rfl) ?_ | (refine ql_nil ?_; intro w hb; replace S := S.grow hb; clear hb) | (refine g_move ?_; refine st_move rfl ?_) | (refine g_assign ?_; refine st_assign rfl ?_) | (refine g_b_add ?_; (refine st_val rfl (r_addN rfl rfl ?_ ?_) ?_; (first | omega | (simp <;> omega)); (first | omega | (simp <;> omega)))) | (refine gq_guard ?_; refine q_off rfl ?_) | (refine gq_move ?_; refine q_move rfl ?_) | (refine gq_pick ?_; refine q_pickF rfl rfl ?_) | (refine gq_b_gtr ?_; refine q_val rfl (fun w' hb => r_gtr rfl rfl) ?_) | (refine ql_split rfl rfl (fun h => ?_) (fun h => ?_) <;> (fail_if_success (have hh : true = true := h)) <;> (fail_if_success (have hh : false = false := h)) <;> (try simp only [decide_eq_true_eq, decide_eq_false_iff_not, Bool.not_eq_true', Bool.not_eq_false', Int.not_lt, Int.not_le] at h) <;> (try (exfalso; omega))))
      refine ⟨⟨_, ?_, i + 1, _, _, ⟨rfl, rfl, rfl, rfl, rfl, trivial⟩, S, by omega, by omega, by omega, ins_step (cS_sw sp) hai hg (fun k p q => hasc k i p q hi) haj hji (fun h => absurd h haj') hall, rfl⟩⟩
      omega
  · repeat' (first | refine WP_seq ?_ | refine WP_region ?_ | refine wl_nil ?_ | refine then_normal ?_ | (refine g_move ?_; refine st_move rfl ?_) | (refine g_b_lss ?_; refine st_val rfl (r_lss rfl rfl) ?_))
    refine WP_cond rfl (fun h => absurd (of_decide_eq_true h) (by omega)) (fun h => ?_)
    refine WP_exit ?_
    refine then_exit ?_
    refine then_exit ?_
    refine inB_here ?_
    have e : i = b := by omega
    subst e
    exact end0 rfl ⟨_, rfl, g, hg, S⟩
end Go.Proofs.YteplelijhkmbkaaDoor
