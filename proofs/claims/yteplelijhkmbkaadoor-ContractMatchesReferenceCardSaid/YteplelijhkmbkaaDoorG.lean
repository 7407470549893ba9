import Derived.Test.YteplelijhkmbkaaDoorF
namespace Go.Proofs.YteplelijhkmbkaaDoor
open Go Go.Gx Go.RowKit
set_option linter.unusedVariables false
set_option linter.unusedSimpArgs false

theorem rot_at {v cv : Value} {f : Nat → Int} {N a m b : Nat} {x y z : Int} {ex : List Ob} {w0 w : World} (S : St w0 w (rowT v f N :: ex)) (hx : x = a) (hy : y = m) (hz : z = b) (ham : a < m) (hmb : m < b) (hb : b ≤ N) (hN : N ≤ 1000000000) :
    CallsW Tryd.prog 63 #[v, .int .i64 x, .int .i64 y, .int .i64 z, cv] w (fun _ w' => St w0 w' (rowT v (rotF f a m b) N :: ex)) := rot_run S hx hy hz ham hmb hb hN
theorem cS_of {sp : List GSpot} {x y : Int} (h : cmpS sp x y < 0) : cS sp x y = true := by unfold cS; exact decide_eq_true h
theorem cS_not {sp : List GSpot} {x y : Int} (h : ¬ cmpS sp x y < 0) : cS sp x y = false := by unfold cS; exact decide_eq_false h
theorem shR_bound {f : Nat → Int} {a k N : Nat} {m : Int} (hk : k < N) (ha : a ≤ k) (hf : ∀ k, k < N → 0 ≤ f k ∧ f k < m) : ∀ t, t < N → 0 ≤ shR f a k t ∧ shR f a k t < m := by
  intro t ht; unfold shR
  (repeat' split)
  · exact hf a (by omega)
  · exact hf (t + 1) (by omega)
  · exact hf t ht
theorem rotF_bound {f : Nat → Int} {s m e N : Nat} {z : Int} (h1 : s ≤ m) (h2 : m ≤ e) (h3 : e ≤ N) (hf : ∀ k, k < N → 0 ≤ f k ∧ f k < z) : ∀ t, t < N → 0 ≤ rotF f s m e t ∧ rotF f s m e t < z := by
  intro t ht; unfold rotF
  (repeat' split)
  · exact hf _ (by omega)
  · exact hf _ (by omega)
  · exact hf t ht
def SymP (sp : List GSpot) (sv : Value) (w0 : World) (n : Nat) : Prop := ∀ {v : Value} {bc : Nat} {f : Nat → Int} {N a m b : Nat} {x y z : Int} {ex : List Ob} {w : World}, b - a ≤ n → St w0 w (rowT v f N :: .var bc 36 [sv] :: ex) → x = a → y = m → z = b → a < m → m < b → b ≤ N → N ≤ 1000000000 →
    (∀ k, k < N → 0 ≤ f k ∧ f k < sp.length) → Two (cS sp) f a m b →
    CallsW Tryd.prog 62 #[v, .int .i64 x, .int .i64 y, .int .i64 z, cv51 bc] w (fun _ w' => ∃ g, Srt (cS sp) f g a b ∧ St w0 w' (rowT v g N :: .var bc 36 [sv] :: ex))
set_option maxHeartbeats 1000000 in
theorem sym_left {sp : List GSpot} {sv : Value} {w0 : World} (hr : Rd fGSpot.ty w0 sv sp) {v : Value} {bc : Nat} {f : Nat → Int} {N a m b : Nat} {x y z : Int} {ex : List Ob} {w : World} (S : St w0 w (rowT v f N :: .var bc 36 [sv] :: ex)) (hx : x = a) (hy : y = m) (hz : z = b) (ham : a < m) (hmb : m < b) (hb : b ≤ N) (hN : N ≤ 1000000000) (hf : ∀ k, k < N → 0 ≤ f k ∧ f k < sp.length) (hT : Two (cS sp) f a m b) (h1 : m = a + 1) :
    CallsW Tryd.prog 62 #[v, .int .i64 x, .int .i64 y, .int .i64 z, cv51 bc] w (fun _ w' => ∃ g, Srt (cS sp) f g a b ∧ St w0 w' (rowT v g N :: .var bc 36 [sv] :: ex)) := by
  subst hx hy hz
  refine CallsW.mk ?_
  refine calls_enter Tryd.func62 rfl (by intro _ h; first | exact nomatch h.1 | (obtain ⟨_, h, _⟩ := h; exact nomatch h)) Tryd.ntmps62 rfl ?_
  subst h1
  repeat' (first | refine WP_seq ?_ | refine WP_region ?_ | refine wl_nil ?_ | refine then_normal ?_ | refine WP_block ?_ | (refine g_move ?_; refine st_move rfl ?_) | (refine g_assign ?_; refine st_assign rfl ?_) | (refine g_b_sub ?_; (refine st_val rfl (r_subN rfl rfl ?_ ?_) ?_; (first | omega | (simp <;> omega)); (first | omega | (simp <;> omega)))) | (refine g_b_eql ?_; refine st_val rfl (r_eql rfl rfl) ?_) | (refine WP_cond rfl (fun h => ?_) (fun h => ?_) <;> (fail_if_success (have hh : true = true := h)) <;> (fail_if_success (have hh : false = false := h)) <;> (try simp only [decide_eq_true_eq, decide_eq_false_iff_not, Bool.not_eq_true', Bool.not_eq_false', Int.not_lt, Int.not_le] at h) <;> (try (exfalso; omega))))
  refine WP_loop (fun k σ w1 => ∃ (i j : Nat) (p q : Int), Has σ [(0, v), (1, .int .i64 (a : Int)), (4, cv51 bc), (10, .int .i64 p), (11, .int .i64 q)] ∧ St w0 w1 (rowT v f N :: .var bc 36 [sv] :: ex) ∧ p = i ∧ q = j ∧ a + 1 ≤ i ∧ i ≤ j ∧ j ≤ b ∧ (j < b → cS sp (f j) (f a) = false) ∧ (a + 1 < i → cS sp (f (i - 1)) (f a) = true) ∧ k = j - i) (b - (a + 1)) ⟨a + 1, b, _, _, ⟨rfl, rfl, rfl, rfl, rfl, trivial⟩, S, by omega, by omega, by omega, by omega, by omega, fun h => by omega, fun h => by omega, rfl⟩ ?_
  clear S
  rintro k σ w1 ⟨i, j, p, q, hs, S, rfl, rfl, hai, hij, hjb, k1, k2, hk⟩
  refine WP_has hs ?_
  have hl := @tab_len f N
  by_cases hlt : i < j
  · have e1 : nth (tab f N) (((i : Int) + j) / 2) = f ((i + j) / 2) := tab_nth (by omega) (by omega)
    have e2 : nth (tab f N) (a : Int) = f a := tab_nth (by omega) rfl
    have b1 := hf ((i + j) / 2) (by omega)
    have b2 := hf a (by omega)
    by_cases hc : cmpS sp (f ((i + j) / 2)) (f a) < 0
    · repeat' (first | refine WP_seq ?_ | refine WP_region ?_ | refine wl_nil ?_ | refine then_normal ?_ | refine inB_normal ?_ | refine WP_skip ?_ | refine WP_block ?_ | refine WP_draw (by kernel_rfl) (by kernel_rfl) ?_ | (refine ql_nil ?_; intro w hb; replace S := S.grow hb; clear hb) | (refine g_move ?_; refine st_move rfl ?_) | (refine g_assign ?_; refine st_assign rfl ?_) | (refine g_b_add ?_; (refine st_val rfl (r_addN rfl rfl ?_ ?_) ?_; (first | omega | (simp <;> omega)); (first | omega | (simp <;> omega)))) | (refine g_b_lss ?_; refine st_val rfl (r_lss rfl rfl) ?_) | (refine g_b_shr ?_; refine st_val rfl (r_shr1 rfl rfl) ?_) | (refine g_convert ?_; first | (refine st_val rfl (r_convI rfl ?_ ?_) ?_; (first | omega | (simp <;> omega)); (first | omega | (simp <;> omega))) | (refine st_val rfl (r_convU rfl ?_ ?_) ?_; (first | omega | (simp <;> omega)); (first | omega | (simp <;> omega)))) | (refine gq_move ?_; refine q_move rfl ?_) | (refine gq_b_lss ?_; refine q_val rfl (fun w' hb => r_lss rfl rfl) ?_) | (refine gq_indexAddr ?_; (refine q_val rfl (fun w' hb => r_indexAddr ((S.grow hb).rdRow (D := (fInt .i64)) (i := 0) rfl) rfl rfl ?_ ?_) ?_; (first | omega | (simp <;> omega)); (first | omega | (simp <;> omega)))) | (refine gq_load ?_; (refine q_val rfl (fun w' hb => r_loadElem1 ((S.grow hb).rdRow (D := (fInt .i64)) (i := 0) rfl) rfl ?_ ?_ rfl) ?_; (first | omega | (simp <;> omega)); (first | omega | (simp <;> omega)))) | (refine gq_callV ?_; refine q_callV rfl (fun w' hb => r_call2 rfl rfl rfl) (fun w' hb => (cmp_at (S.grow hb) hr (by rw [e1]; exact b1) (by rw [e2]; exact b2))) ?_) | (refine WP_cond rfl (fun h => ?_) (fun h => ?_) <;> (fail_if_success (have hh : true = true := h)) <;> (fail_if_success (have hh : false = false := h)) <;> (try simp only [decide_eq_true_eq, decide_eq_false_iff_not, Bool.not_eq_true', Bool.not_eq_false', Int.not_lt, Int.not_le] at h) <;> (try (exfalso; omega)) <;> (try (exfalso; rw [e1, e2] at h; omega; done))))
      refine ⟨⟨_, ?_, (i + j) / 2 + 1, j, _, _, ⟨rfl, rfl, rfl, rfl, rfl, trivial⟩, S, by omega, by omega, by omega, by omega, by omega, k1, fun _ => cS_of hc, rfl⟩⟩
      omega
    · repeat' (first | refine WP_seq ?_ | refine WP_region ?_ | refine wl_nil ?_ | refine then_normal ?_ | refine inB_normal ?_ | refine WP_skip ?_ | refine WP_block ?_ | refine WP_draw (by kernel_rfl) (by kernel_rfl) ?_ | (refine ql_nil ?_; intro w hb; replace S := S.grow hb; clear hb) | (refine g_move ?_; refine st_move rfl ?_) | (refine g_assign ?_; refine st_assign rfl ?_) | (refine g_b_add ?_; (refine st_val rfl (r_addN rfl rfl ?_ ?_) ?_; (first | omega | (simp <;> omega)); (first | omega | (simp <;> omega)))) | (refine g_b_lss ?_; refine st_val rfl (r_lss rfl rfl) ?_) | (refine g_b_shr ?_; refine st_val rfl (r_shr1 rfl rfl) ?_) | (refine g_convert ?_; first | (refine st_val rfl (r_convI rfl ?_ ?_) ?_; (first | omega | (simp <;> omega)); (first | omega | (simp <;> omega))) | (refine st_val rfl (r_convU rfl ?_ ?_) ?_; (first | omega | (simp <;> omega)); (first | omega | (simp <;> omega)))) | (refine gq_move ?_; refine q_move rfl ?_) | (refine gq_b_lss ?_; refine q_val rfl (fun w' hb => r_lss rfl rfl) ?_) | (refine gq_indexAddr ?_; (refine q_val rfl (fun w' hb => r_indexAddr ((S.grow hb).rdRow (D := (fInt .i64)) (i := 0) rfl) rfl rfl ?_ ?_) ?_; (first | omega | (simp <;> omega)); (first | omega | (simp <;> omega)))) | (refine gq_load ?_; (refine q_val rfl (fun w' hb => r_loadElem1 ((S.grow hb).rdRow (D := (fInt .i64)) (i := 0) rfl) rfl ?_ ?_ rfl) ?_; (first | omega | (simp <;> omega)); (first | omega | (simp <;> omega)))) | (refine gq_callV ?_; refine q_callV rfl (fun w' hb => r_call2 rfl rfl rfl) (fun w' hb => (cmp_at (S.grow hb) hr (by rw [e1]; exact b1) (by rw [e2]; exact b2))) ?_) | (refine WP_cond rfl (fun h => ?_) (fun h => ?_) <;> (fail_if_success (have hh : true = true := h)) <;> (fail_if_success (have hh : false = false := h)) <;> (try simp only [decide_eq_true_eq, decide_eq_false_iff_not, Bool.not_eq_true', Bool.not_eq_false', Int.not_lt, Int.not_le] at h) <;> (try (exfalso; omega)) <;> (try (exfalso; rw [e1, e2] at h; omega; done))))
      refine ⟨⟨_, ?_, i, (i + j) / 2, _, _, ⟨rfl, rfl, rfl, rfl, rfl, trivial⟩, S, by omega, by omega, by omega, by omega, by omega, fun _ => cS_not hc, k2, rfl⟩⟩
      omega
  · have hji : j = i := by omega
    subst hji
    have hres := one_left (cS_sw sp) hai (by omega) hT k1 k2
    repeat' (first | refine WP_seq ?_ | refine WP_region ?_ | refine wl_nil ?_ | refine then_normal ?_ | refine then_exit ?_ | refine inB_here ?_ | refine WP_exit ?_ | refine WP_block ?_ | (refine g_move ?_; refine st_move rfl ?_) | (refine g_assign ?_; refine st_assign rfl ?_) | (refine g_b_lss ?_; refine st_val rfl (r_lss rfl rfl) ?_) | (refine WP_cond rfl (fun h => ?_) (fun h => ?_) <;> (fail_if_success (have hh : true = true := h)) <;> (fail_if_success (have hh : false = false := h)) <;> (try simp only [decide_eq_true_eq, decide_eq_false_iff_not, Bool.not_eq_true', Bool.not_eq_false', Int.not_lt, Int.not_le] at h) <;> (try (exfalso; omega))))
    refine WP_loop (fun k σ w1 => ∃ (t : Nat) (p : Int), Has σ [(0, v), (10, .int .i64 (j : Int)), (13, .int .i64 p)] ∧ St w0 w1 (rowT v (shR f a t) N :: .var bc 36 [sv] :: ex) ∧ p = t ∧ a ≤ t ∧ t ≤ j - 1 ∧ k = j - t) (j - a) ⟨a, _, ⟨rfl, rfl, rfl, trivial⟩, by rw [shR_start]; exact S, rfl, by omega, by omega, by omega⟩ ?_
    clear S hs
    rintro k σ w1 ⟨t, p, hs, S, rfl, hat, htj, hk⟩
    refine WP_has hs ?_
    have hl := @tab_len (shR f a t) N
    by_cases htl : t < j - 1
    · have e1 : nth (tab (shR f a t) N) ((t : Int) + 1) = f (t + 1) := by rw [tab_nth (i := t + 1) (by omega) (by omega)]; unfold shR; rw [if_neg (by omega), if_neg (by omega)]
      have e2 : nth (tab (shR f a t) N) (t : Int) = f a := by rw [tab_nth (i := t) (by omega) rfl]; unfold shR; rw [if_pos rfl]
      repeat' (first | refine WP_seq ?_ | refine WP_region ?_ | refine wl_nil ?_ | refine then_normal ?_ | refine WP_skip ?_ | refine WP_block ?_ | (refine Pm.WP_drawPerm [0,1,5,6,7,8,9,10,11,12,13] [2,3,4] [14,15,16,17] (by kernel_rfl) (by decide +kernel) (by decide +kernel) ?_; intro w hb; replace S := S.grow hb; clear hb) | (refine ql_nil ?_; intro w hb; replace S := S.grow hb; clear hb) | (refine g_move ?_; refine st_move rfl ?_) | (refine g_b_sub ?_; (refine st_val rfl (r_subN rfl rfl ?_ ?_) ?_; (first | omega | (simp <;> omega)); (first | omega | (simp <;> omega)))) | (refine g_b_lss ?_; refine st_val rfl (r_lss rfl rfl) ?_) | (refine g_indexAddr ?_; (refine st_val rfl (r_indexAddr (S.rdRow (D := (fInt .i64)) (i := 0) rfl) rfl rfl ?_ ?_) ?_; (first | omega | (simp <;> omega)); (first | omega | (simp <;> omega)))) | (refine gq_move ?_; refine q_move rfl ?_) | (refine gq_b_add ?_; (refine q_val rfl (fun w' hb => r_addN rfl rfl ?_ ?_) ?_; (first | omega | (simp <;> omega)); (first | omega | (simp <;> omega)))) | (refine gq_indexAddr ?_; (refine q_val rfl (fun w' hb => r_indexAddr ((S.grow hb).rdRow (D := (fInt .i64)) (i := 0) rfl) rfl rfl ?_ ?_) ?_; (first | omega | (simp <;> omega)); (first | omega | (simp <;> omega)))) | (refine gq_load ?_; (refine q_val rfl (fun w' hb => r_loadElem1 ((S.grow hb).rdRow (D := (fInt .i64)) (i := 0) rfl) rfl ?_ ?_ rfl) ?_; (first | omega | (simp <;> omega)); (first | omega | (simp <;> omega)))) | (refine Pm.qp_nil ?_; intro w hb; replace S := S.grow hb; clear hb) | (refine Pm.qp_val rfl (fun w' => r_addN rfl rfl ?_ ?_) ?_; omega; omega) | (refine Pm.qp_val rfl (fun w' => ⟨rfl⟩) ?_) | (refine WP_cond rfl (fun h => ?_) (fun h => ?_) <;> (fail_if_success (have hh : true = true := h)) <;> (fail_if_success (have hh : false = false := h)) <;> (try simp only [decide_eq_true_eq, decide_eq_false_iff_not, Bool.not_eq_true', Bool.not_eq_false', Int.not_lt, Int.not_le] at h) <;> (try (exfalso; omega))))
      refine st_skipE rfl (r_storeElem (i := 0) (D := fInt .i64) S rfl rfl rfl rfl (fun c hc => by cases List.mem_singleton.1 hc; rfl) (by omega) (by omega)) ?_
      intro w S'
      replace S : St w0 w (rowT v (fun k => if k = t then f (t + 1) else shR f a t k) N :: .var bc 36 [sv] :: ex) := by
        rw [tab_put (i := t) (by omega) (by omega), e1] at S'; exact S'
      clear S'
      have hl := @tab_len (fun k => if k = t then f (t + 1) else shR f a t k) N
      repeat' ((refine g_indexAddr ?_; (refine st_val rfl (r_indexAddr (S.rdRow (D := (fInt .i64)) (i := 0) rfl) rfl rfl ?_ ?_) ?_; (first | omega | (simp <;> omega)); (first | omega | (simp <;> omega)))))
      refine st_skipE rfl (r_storeElem (i := 0) (D := fInt .i64) S rfl rfl rfl rfl (fun c hc => by cases List.mem_singleton.1 hc; rfl) (by omega) (by omega)) ?_
      intro w S'
      replace S : St w0 w (rowT v (shR f a (t + 1)) N :: .var bc 36 [sv] :: ex) := by
        rw [tab_put (i := t + 1) (by omega) (by omega), e2] at S'
        refine S'.eqos (congrArg (fun o => o :: Ob.var bc 36 [sv] :: ex) (rowT_ext fun k hk => ?_))
        unfold shR
        (repeat' split) <;> first | rfl | omega | (congr 1; omega)
      clear S'
      repeat' (first | refine WP_region ?_ | refine wl_nil ?_ | refine then_normal ?_ | refine inB_normal ?_ | (refine g_move ?_; refine st_move rfl ?_) | (refine g_assign ?_; refine st_assign rfl ?_) | (refine g_b_add ?_; (refine st_val rfl (r_addN rfl rfl ?_ ?_) ?_; (first | omega | (simp <;> omega)); (first | omega | (simp <;> omega)))))
      refine ⟨⟨_, ?_, t + 1, _, ⟨rfl, rfl, rfl, trivial⟩, S, by omega, by omega, by omega, rfl⟩⟩
      omega
    · repeat' (first | refine WP_seq ?_ | refine WP_region ?_ | refine wl_nil ?_ | refine then_normal ?_ | refine then_exit ?_ | refine inB_here ?_ | refine then_ret ?_ | refine WP_ret ?_ | refine WP_exit ?_ | (refine g_move ?_; refine st_move rfl ?_) | (refine g_b_sub ?_; (refine st_val rfl (r_subN rfl rfl ?_ ?_) ?_; (first | omega | (simp <;> omega)); (first | omega | (simp <;> omega)))) | (refine g_b_lss ?_; refine st_val rfl (r_lss rfl rfl) ?_) | (refine WP_cond rfl (fun h => ?_) (fun h => ?_) <;> (fail_if_success (have hh : true = true := h)) <;> (fail_if_success (have hh : false = false := h)) <;> (try simp only [decide_eq_true_eq, decide_eq_false_iff_not, Bool.not_eq_true', Bool.not_eq_false', Int.not_lt, Int.not_le] at h) <;> (try (exfalso; omega))))
      have et : t = j - 1 := by omega
      subst et
      exact end0r rfl ⟨_, rfl, _, hres, S⟩
set_option maxHeartbeats 1000000 in
theorem sym_right {sp : List GSpot} {sv : Value} {w0 : World} (hr : Rd fGSpot.ty w0 sv sp) {v : Value} {bc : Nat} {f : Nat → Int} {N a m b : Nat} {x y z : Int} {ex : List Ob} {w : World} (S : St w0 w (rowT v f N :: .var bc 36 [sv] :: ex)) (hx : x = a) (hy : y = m) (hz : z = b) (ham : a < m) (hmb : m < b) (hb : b ≤ N) (hN : N ≤ 1000000000) (hf : ∀ k, k < N → 0 ≤ f k ∧ f k < sp.length) (hT : Two (cS sp) f a m b) (h1 : ¬ m = a + 1) (h2 : b = m + 1) :
    CallsW Tryd.prog 62 #[v, .int .i64 x, .int .i64 y, .int .i64 z, cv51 bc] w (fun _ w' => ∃ g, Srt (cS sp) f g a b ∧ St w0 w' (rowT v g N :: .var bc 36 [sv] :: ex)) := by
  subst hx hy hz
  refine CallsW.mk ?_
  refine calls_enter Tryd.func62 rfl (by intro _ h; first | exact nomatch h.1 | (obtain ⟨_, h, _⟩ := h; exact nomatch h)) Tryd.ntmps62 rfl ?_
  subst h2
  repeat' (first | refine WP_seq ?_ | refine WP_region ?_ | refine wl_nil ?_ | refine then_normal ?_ | refine WP_skip ?_ | refine WP_block ?_ | (refine g_move ?_; refine st_move rfl ?_) | (refine g_assign ?_; refine st_assign rfl ?_) | (refine g_b_sub ?_; (refine st_val rfl (r_subN rfl rfl ?_ ?_) ?_; (first | omega | (simp <;> omega)); (first | omega | (simp <;> omega)))) | (refine g_b_eql ?_; refine st_val rfl (r_eql rfl rfl) ?_) | (refine WP_cond rfl (fun h => ?_) (fun h => ?_) <;> (fail_if_success (have hh : true = true := h)) <;> (fail_if_success (have hh : false = false := h)) <;> (try simp only [decide_eq_true_eq, decide_eq_false_iff_not, Bool.not_eq_true', Bool.not_eq_false', Int.not_lt, Int.not_le] at h) <;> (try (exfalso; omega))))
  refine WP_loop (fun k σ w1 => ∃ (i j : Nat) (p q : Int), Has σ [(0, v), (2, .int .i64 (m : Int)), (4, cv51 bc), (14, .int .i64 p), (15, .int .i64 q)] ∧ St w0 w1 (rowT v f N :: .var bc 36 [sv] :: ex) ∧ p = i ∧ q = j ∧ a ≤ i ∧ i ≤ j ∧ j ≤ m ∧ (j < m → cS sp (f m) (f j) = true) ∧ (a < i → cS sp (f m) (f (i - 1)) = false) ∧ k = j - i) (m - a) ⟨a, m, _, _, ⟨rfl, rfl, rfl, rfl, rfl, trivial⟩, S, by omega, by omega, by omega, by omega, by omega, fun h => by omega, fun h => by omega, rfl⟩ ?_
  clear S
  rintro k σ w1 ⟨i, j, p, q, hs, S, rfl, rfl, hai, hij, hjb, k1, k2, hk⟩
  refine WP_has hs ?_
  have hl := @tab_len f N
  by_cases hlt : i < j
  · have e2 : nth (tab f N) (((i : Int) + j) / 2) = f ((i + j) / 2) := tab_nth (by omega) (by omega)
    have e1 : nth (tab f N) (m : Int) = f m := tab_nth (by omega) rfl
    have b2 := hf ((i + j) / 2) (by omega)
    have b1 := hf m (by omega)
    by_cases hc : cmpS sp (f m) (f ((i + j) / 2)) < 0
    · repeat' (first | refine WP_seq ?_ | refine WP_region ?_ | refine wl_nil ?_ | refine then_normal ?_ | refine inB_normal ?_ | refine WP_skip ?_ | refine WP_block ?_ | refine WP_draw (by kernel_rfl) (by kernel_rfl) ?_ | (refine ql_nil ?_; intro w hb; replace S := S.grow hb; clear hb) | (refine g_move ?_; refine st_move rfl ?_) | (refine g_assign ?_; refine st_assign rfl ?_) | (refine g_b_add ?_; (refine st_val rfl (r_addN rfl rfl ?_ ?_) ?_; (first | omega | (simp <;> omega)); (first | omega | (simp <;> omega)))) | (refine g_b_lss ?_; refine st_val rfl (r_lss rfl rfl) ?_) | (refine g_b_shr ?_; refine st_val rfl (r_shr1 rfl rfl) ?_) | (refine g_convert ?_; first | (refine st_val rfl (r_convI rfl ?_ ?_) ?_; (first | omega | (simp <;> omega)); (first | omega | (simp <;> omega))) | (refine st_val rfl (r_convU rfl ?_ ?_) ?_; (first | omega | (simp <;> omega)); (first | omega | (simp <;> omega)))) | (refine gq_move ?_; refine q_move rfl ?_) | (refine gq_b_lss ?_; refine q_val rfl (fun w' hb => r_lss rfl rfl) ?_) | (refine gq_un ?_; refine q_val rfl (fun w' hb => r_not rfl) ?_) | (refine gq_indexAddr ?_; (refine q_val rfl (fun w' hb => r_indexAddr ((S.grow hb).rdRow (D := (fInt .i64)) (i := 0) rfl) rfl rfl ?_ ?_) ?_; (first | omega | (simp <;> omega)); (first | omega | (simp <;> omega)))) | (refine gq_load ?_; (refine q_val rfl (fun w' hb => r_loadElem1 ((S.grow hb).rdRow (D := (fInt .i64)) (i := 0) rfl) rfl ?_ ?_ rfl) ?_; (first | omega | (simp <;> omega)); (first | omega | (simp <;> omega)))) | (refine gq_callV ?_; refine q_callV rfl (fun w' hb => r_call2 rfl rfl rfl) (fun w' hb => (cmp_at (S.grow hb) hr (by rw [e1]; exact b1) (by rw [e2]; exact b2))) ?_) | (refine WP_cond rfl (fun h => ?_) (fun h => ?_) <;> (fail_if_success (have hh : true = true := h)) <;> (fail_if_success (have hh : false = false := h)) <;> (try simp only [decide_eq_true_eq, decide_eq_false_iff_not, Bool.not_eq_true', Bool.not_eq_false', Int.not_lt, Int.not_le] at h) <;> (try (exfalso; omega)) <;> (try (exfalso; rw [e1, e2] at h; omega; done))))
      refine ⟨⟨_, ?_, i, (i + j) / 2, _, _, ⟨rfl, rfl, rfl, rfl, rfl, trivial⟩, S, by omega, by omega, by omega, by omega, by omega, fun _ => cS_of hc, k2, rfl⟩⟩
      omega
    · repeat' (first | refine WP_seq ?_ | refine WP_region ?_ | refine wl_nil ?_ | refine then_normal ?_ | refine inB_normal ?_ | refine WP_skip ?_ | refine WP_block ?_ | refine WP_draw (by kernel_rfl) (by kernel_rfl) ?_ | (refine ql_nil ?_; intro w hb; replace S := S.grow hb; clear hb) | (refine g_move ?_; refine st_move rfl ?_) | (refine g_assign ?_; refine st_assign rfl ?_) | (refine g_b_add ?_; (refine st_val rfl (r_addN rfl rfl ?_ ?_) ?_; (first | omega | (simp <;> omega)); (first | omega | (simp <;> omega)))) | (refine g_b_lss ?_; refine st_val rfl (r_lss rfl rfl) ?_) | (refine g_b_shr ?_; refine st_val rfl (r_shr1 rfl rfl) ?_) | (refine g_convert ?_; first | (refine st_val rfl (r_convI rfl ?_ ?_) ?_; (first | omega | (simp <;> omega)); (first | omega | (simp <;> omega))) | (refine st_val rfl (r_convU rfl ?_ ?_) ?_; (first | omega | (simp <;> omega)); (first | omega | (simp <;> omega)))) | (refine gq_move ?_; refine q_move rfl ?_) | (refine gq_b_lss ?_; refine q_val rfl (fun w' hb => r_lss rfl rfl) ?_) | (refine gq_un ?_; refine q_val rfl (fun w' hb => r_not rfl) ?_) | (refine gq_indexAddr ?_; (refine q_val rfl (fun w' hb => r_indexAddr ((S.grow hb).rdRow (D := (fInt .i64)) (i := 0) rfl) rfl rfl ?_ ?_) ?_; (first | omega | (simp <;> omega)); (first | omega | (simp <;> omega)))) | (refine gq_load ?_; (refine q_val rfl (fun w' hb => r_loadElem1 ((S.grow hb).rdRow (D := (fInt .i64)) (i := 0) rfl) rfl ?_ ?_ rfl) ?_; (first | omega | (simp <;> omega)); (first | omega | (simp <;> omega)))) | (refine gq_callV ?_; refine q_callV rfl (fun w' hb => r_call2 rfl rfl rfl) (fun w' hb => (cmp_at (S.grow hb) hr (by rw [e1]; exact b1) (by rw [e2]; exact b2))) ?_) | (refine WP_cond rfl (fun h => ?_) (fun h => ?_) <;> (fail_if_success (have hh : true = true := h)) <;> (fail_if_success (have hh : false = false := h)) <;> (try simp only [decide_eq_true_eq, decide_eq_false_iff_not, Bool.not_eq_true', Bool.not_eq_false', Int.not_lt, Int.not_le] at h) <;> (try (exfalso; omega)) <;> (try (exfalso; rw [e1, e2] at h; omega; done))))
      refine ⟨⟨_, ?_, (i + j) / 2 + 1, j, _, _, ⟨rfl, rfl, rfl, rfl, rfl, trivial⟩, S, by omega, by omega, by omega, by omega, by omega, k1, fun _ => cS_not hc, rfl⟩⟩
      omega
  · have hji : j = i := by omega
    subst hji
    have hres := one_right (cS_sw sp) hai (by omega) hT k2 k1
    repeat' (first | refine WP_seq ?_ | refine WP_region ?_ | refine wl_nil ?_ | refine then_normal ?_ | refine then_exit ?_ | refine inB_here ?_ | refine WP_exit ?_ | refine WP_block ?_ | (refine g_move ?_; refine st_move rfl ?_) | (refine g_assign ?_; refine st_assign rfl ?_) | (refine g_b_lss ?_; refine st_val rfl (r_lss rfl rfl) ?_) | (refine WP_cond rfl (fun h => ?_) (fun h => ?_) <;> (fail_if_success (have hh : true = true := h)) <;> (fail_if_success (have hh : false = false := h)) <;> (try simp only [decide_eq_true_eq, decide_eq_false_iff_not, Bool.not_eq_true', Bool.not_eq_false', Int.not_lt, Int.not_le] at h) <;> (try (exfalso; omega))))
    refine WP_loop (fun k σ w1 => ∃ (t : Nat) (p : Int), Has σ [(0, v), (14, .int .i64 (j : Int)), (17, .int .i64 p)] ∧ St w0 w1 (rowT v (insF f t m) N :: .var bc 36 [sv] :: ex) ∧ p = t ∧ j ≤ t ∧ t ≤ m ∧ k = t) m ⟨m, _, ⟨rfl, rfl, rfl, trivial⟩, by rw [insF_start]; exact S, rfl, by omega, by omega, by omega⟩ ?_
    clear S hs
    rintro k σ w1 ⟨t, p, hs, S, rfl, hat, htj, hk⟩
    refine WP_has hs ?_
    have hl := @tab_len (insF f t m) N
    by_cases htl : j < t
    · have e1 : nth (tab (insF f t m) N) (t : Int) = f m := by rw [tab_nth (i := t) (by omega) rfl]; unfold insF; rw [if_pos rfl]
      have e2 : nth (tab (insF f t m) N) ((t : Int) - 1) = f (t - 1) := by rw [tab_nth (i := t - 1) (by omega) (by omega)]; unfold insF; rw [if_neg (by omega), if_neg (by omega)]
      repeat' (first | refine WP_seq ?_ | refine WP_region ?_ | refine wl_nil ?_ | refine then_normal ?_ | refine WP_skip ?_ | refine WP_block ?_ | (refine Pm.WP_drawPerm [0,1,5,6,7,8,9,10,11,12,13] [2,3,4] [14,15,16,17] (by kernel_rfl) (by decide +kernel) (by decide +kernel) ?_; intro w hb; replace S := S.grow hb; clear hb) | (refine ql_nil ?_; intro w hb; replace S := S.grow hb; clear hb) | (refine g_move ?_; refine st_move rfl ?_) | (refine g_b_gtr ?_; refine st_val rfl (r_gtr rfl rfl) ?_) | (refine g_indexAddr ?_; (refine st_val rfl (r_indexAddr (S.rdRow (D := (fInt .i64)) (i := 0) rfl) rfl rfl ?_ ?_) ?_; (first | omega | (simp <;> omega)); (first | omega | (simp <;> omega)))) | (refine gq_move ?_; refine q_move rfl ?_) | (refine gq_b_sub ?_; (refine q_val rfl (fun w' hb => r_subN rfl rfl ?_ ?_) ?_; (first | omega | (simp <;> omega)); (first | omega | (simp <;> omega)))) | (refine gq_indexAddr ?_; (refine q_val rfl (fun w' hb => r_indexAddr ((S.grow hb).rdRow (D := (fInt .i64)) (i := 0) rfl) rfl rfl ?_ ?_) ?_; (first | omega | (simp <;> omega)); (first | omega | (simp <;> omega)))) | (refine gq_load ?_; (refine q_val rfl (fun w' hb => r_loadElem1 ((S.grow hb).rdRow (D := (fInt .i64)) (i := 0) rfl) rfl ?_ ?_ rfl) ?_; (first | omega | (simp <;> omega)); (first | omega | (simp <;> omega)))) | (refine Pm.qp_nil ?_; intro w hb; replace S := S.grow hb; clear hb) | (refine Pm.qp_val rfl (fun w' => r_subN rfl rfl ?_ ?_) ?_; omega; omega) | (refine Pm.qp_val rfl (fun w' => ⟨rfl⟩) ?_) | (refine WP_cond rfl (fun h => ?_) (fun h => ?_) <;> (fail_if_success (have hh : true = true := h)) <;> (fail_if_success (have hh : false = false := h)) <;> (try simp only [decide_eq_true_eq, decide_eq_false_iff_not, Bool.not_eq_true', Bool.not_eq_false', Int.not_lt, Int.not_le] at h) <;> (try (exfalso; omega))))
      refine st_skipE rfl (r_storeElem (i := 0) (D := fInt .i64) S rfl rfl rfl rfl (fun c hc => by cases List.mem_singleton.1 hc; rfl) (by omega) (by omega)) ?_
      intro w S'
      replace S : St w0 w (rowT v (fun k => if k = t then f (t - 1) else insF f t m k) N :: .var bc 36 [sv] :: ex) := by
        rw [tab_put (i := t) (by omega) (by omega), e2] at S'; exact S'
      clear S'
      have hl := @tab_len (fun k => if k = t then f (t - 1) else insF f t m k) N
      repeat' ((refine g_indexAddr ?_; (refine st_val rfl (r_indexAddr (S.rdRow (D := (fInt .i64)) (i := 0) rfl) rfl rfl ?_ ?_) ?_; (first | omega | (simp <;> omega)); (first | omega | (simp <;> omega)))))
      refine st_skipE rfl (r_storeElem (i := 0) (D := fInt .i64) S rfl rfl rfl rfl (fun c hc => by cases List.mem_singleton.1 hc; rfl) (by omega) (by omega)) ?_
      intro w S'
      replace S : St w0 w (rowT v (insF f (t - 1) m) N :: .var bc 36 [sv] :: ex) := by
        rw [tab_put (i := t - 1) (by omega) (by omega), e1] at S'
        refine S'.eqos (congrArg (fun o => o :: Ob.var bc 36 [sv] :: ex) (rowT_ext fun k hk => ?_))
        unfold insF
        (repeat' split) <;> first | rfl | omega | (congr 1; omega)
      clear S'
      repeat' (first | refine WP_region ?_ | refine wl_nil ?_ | refine then_normal ?_ | refine inB_normal ?_ | (refine g_move ?_; refine st_move rfl ?_) | (refine g_assign ?_; refine st_assign rfl ?_) | (refine g_b_sub ?_; (refine st_val rfl (r_subN rfl rfl ?_ ?_) ?_; (first | omega | (simp <;> omega)); (first | omega | (simp <;> omega)))))
      refine ⟨⟨_, ?_, t - 1, _, ⟨rfl, rfl, rfl, trivial⟩, S, by omega, by omega, by omega, rfl⟩⟩
      omega
    · repeat' (first | refine WP_seq ?_ | refine WP_region ?_ | refine wl_nil ?_ | refine then_normal ?_ | refine then_exit ?_ | refine inB_here ?_ | refine then_ret ?_ | refine WP_ret ?_ | refine WP_exit ?_ | (refine g_move ?_; refine st_move rfl ?_) | (refine g_b_gtr ?_; refine st_val rfl (r_gtr rfl rfl) ?_) | (refine WP_cond rfl (fun h => ?_) (fun h => ?_) <;> (fail_if_success (have hh : true = true := h)) <;> (fail_if_success (have hh : false = false := h)) <;> (try simp only [decide_eq_true_eq, decide_eq_false_iff_not, Bool.not_eq_true', Bool.not_eq_false', Int.not_lt, Int.not_le] at h) <;> (try (exfalso; omega))))
      have et : t = j := by omega
      subst et
      exact end0r rfl ⟨_, rfl, _, hres, S⟩
end Go.Proofs.YteplelijhkmbkaaDoor
