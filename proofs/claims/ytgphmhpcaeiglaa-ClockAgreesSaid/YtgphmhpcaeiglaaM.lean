import Derived.Test.YtgphmhpcaeiglaaL
namespace Go.Proofs.Ytgphmhpcaeiglaa
open Go Go.Gx Go.RowKit
set_option linter.unusedVariables false
set_option linter.unusedSimpArgs false

theorem best_up {l : List GSpell} {i k f : Int} (h0 : 0 ≤ i) (hi : i < l.length) (h : BestI l (l.take i.toNat) k f) (hu : k < insideI l (nth l i).From ∨ insideI l (nth l i).From = k ∧ (nth l i).From < f) : BestI l (l.take (i + 1).toNat) (insideI l (nth l i).From) (nth l i).From := by
  obtain ⟨a, b, c⟩ := h
  refine ⟨by omega, fun x hx => ?_, fun hk => ⟨rfl, fun x hx he => ?_⟩⟩
  · rcases (mem_take_next h0 hi).1 hx with hx | rfl
    · have := b x hx; omega
    · exact Int.le_refl _
  · rcases (mem_take_next h0 hi).1 hx with hx | rfl
    · have := b x hx
      rcases hu with hu | hu
      · omega
      · have := (c (by omega)).2 x hx (by omega); omega
    · exact Int.le_refl _
theorem best_stay {l : List GSpell} {i k f : Int} (h0 : 0 ≤ i) (hi : i < l.length) (h : BestI l (l.take i.toNat) k f) (h1 : ¬ k < insideI l (nth l i).From) (h2 : ¬ (insideI l (nth l i).From = k ∧ (nth l i).From < f)) : BestI l (l.take (i + 1).toNat) k f := by
  obtain ⟨a, b, c⟩ := h
  refine ⟨a, fun x hx => ?_, fun hk => ⟨(c hk).1, fun x hx he => ?_⟩⟩
  · rcases (mem_take_next h0 hi).1 hx with hx | rfl
    · exact b x hx
    · omega
  · rcases (mem_take_next h0 hi).1 hx with hx | rfl
    · exact (c hk).2 x hx he
    · omega

set_option maxRecDepth 4000 in
set_option maxHeartbeats 1000000 in
theorem agreeR_spec {v : Value} {l : List GSpell} {w0 : World} (hr : Rd fGSpell.ty w0 v l) (hl : l.length ≤ 100000) :
    CallsR Try.prog 13 #[v] w0 fun u w' => ∃ f t k, u = .tuple #[.agg #[.int .i64 f, .int .i64 t], .int .i64 k] ∧ AgreeOK l f t k := by
  have S := St.start w0
  obtain ⟨A, c, rfl⟩ := hr.len
  refine CallsR.mk ?_
  refine calls_enter Try.func13 rfl Try.ntmps13 rfl ?_
  repeat' (first | refine WP_seq ?_ | refine WP_region ?_ | refine wl_nil ?_ | refine then_normal ?_ | refine WP_block ?_ | (refine g_assign ?_; refine st_assign rfl ?_) | (refine g_alloc ?_; refine st_valE rfl (r_alloc S) ?_; rintro _ w ⟨b, rfl, -, S'⟩; replace S := S'; clear S'))
  obtain ⟨b2, rfl⟩ : ∃ z, z = b := ⟨_, rfl⟩
  refine WP_loop (fun k σ w1 => ∃ (i m f : Int), Has σ [(0, .slice A l.length c), (2, .pointer (some ⟨b2, 0, none⟩)), (4, .int .i64 m), (5, .int .i64 f), (6, .int .i64 i)] ∧ St w0 w1 [.var b2 32 [.int .i64 0, .int .i64 0]] ∧ 0 ≤ i ∧ i ≤ l.length ∧ k = l.length - i.toNat ∧ BestI l (l.take i.toNat) m f) l.length ⟨0, 0, 0, ⟨rfl, rfl, rfl, rfl, rfl, trivial⟩, S, by omega, by omega, by omega, ⟨by omega, fun x hx => by simp at hx, fun h => by omega⟩⟩ ?_
  clear S
  rintro k σ w1 ⟨i, m, f, hs, S, a0, a1, rfl, hB⟩
  refine WP_has hs ?_
  by_cases hi : i < l.length
  · have hn := inside_range l (nth l i).From
    repeat' (first | refine WP_seq ?_ | refine WP_region ?_ | refine wl_nil ?_ | refine then_normal ?_ | refine inB_normal ?_ | refine WP_skip ?_ | refine WP_block ?_ | refine WP_condT rfl ?_ | refine WP_condF rfl ?_ | (refine g_guard ?_; refine st_off rfl ?_) | (refine g_move ?_; refine st_move rfl ?_) | (refine g_assign ?_; refine st_assign rfl ?_) | (refine g_pick ?_; first | refine st_pickT rfl rfl ?_ | refine st_pickF rfl rfl ?_) | (refine g_b_add ?_; (refine st_val rfl (r_addN rfl rfl ?_ ?_) ?_; (first | omega | (simp <;> omega)); (first | omega | (simp <;> omega)))) | (refine g_b_eql ?_; refine st_val rfl (r_eql rfl rfl) ?_) | (refine g_b_lss ?_; refine st_val rfl (r_lss rfl rfl) ?_) | (refine g_b_gtr ?_; refine st_val rfl (r_gtr rfl rfl) ?_) | (refine g_c_len ?_; refine st_val rfl (r_lenSlice rfl) ?_) | (refine g_fieldAddr ?_; refine st_val rfl (r_fieldAddr rfl) ?_) | (refine g_indexAddr ?_; (refine st_val rfl (r_indexAddr (hr.mono S.below) rfl rfl ?_ ?_) ?_; (first | omega | (simp <;> omega)); (first | omega | (simp <;> omega)))) | (refine g_load ?_; (refine st_val rfl (r_loadElem1 (hr.mono S.below) rfl ?_ ?_ rfl) ?_; (first | omega | (simp <;> omega)); (first | omega | (simp <;> omega)))) | (refine g_callV ?_; (refine st_callV rfl (r_call2 rfl rfl rfl) (insideR_spec (hr.mono S.below) hl) ?_; intro w hb; replace S := S.grow hb; clear hb)) | (refine wl_split rfl rfl (fun h => ?_) (fun h => ?_) <;> (fail_if_success (have hh : true = true := h)) <;> (try simp only [decide_eq_true_eq, decide_eq_false_iff_not, Bool.not_eq_true', Bool.not_eq_false', Int.not_lt, Int.not_le] at h) <;> (try (exfalso; omega))) | (refine WP_cond rfl (fun h => ?_) (fun h => ?_) <;> (fail_if_success (have hh : true = true := h)) <;> (try simp only [decide_eq_true_eq, decide_eq_false_iff_not, Bool.not_eq_true', Bool.not_eq_false', Int.not_lt, Int.not_le] at h) <;> (try (exfalso; omega))))
    all_goals first
      | (refine ⟨⟨_, ?_, i + 1, _, _, ⟨rfl, rfl, rfl, rfl, rfl, trivial⟩, S, by omega, by omega, rfl, best_up a0 hi hB (by omega)⟩⟩; omega)
      | (refine ⟨⟨_, ?_, i + 1, m, f, ⟨rfl, rfl, rfl, rfl, rfl, trivial⟩, S, by omega, by omega, rfl, best_stay a0 hi hB (by omega) (by omega)⟩⟩; omega)
      | trace_state
  · rw [show i.toNat = l.length by omega, List.take_of_length_le (Nat.le_refl _)] at hB
    obtain ⟨hz, hp⟩ := best_all hB
    have hm0 := hB.1
    by_cases hm : m = 0
    · subst hm
      repeat' (first | refine WP_seq ?_ | refine WP_region ?_ | refine wl_nil ?_ | refine then_normal ?_ | refine then_exit ?_ | refine inB_here ?_ | refine then_ret ?_ | refine WP_ret ?_ | refine WP_exit ?_ | refine WP_condT rfl ?_ | (refine g_move ?_; refine st_move rfl ?_) | (refine g_assign ?_; refine st_assign rfl ?_) | (refine g_b_eql ?_; refine st_val rfl (r_eql rfl rfl) ?_) | (refine g_b_lss ?_; refine st_val rfl (r_lss rfl rfl) ?_) | (refine g_build ?_; refine st_val rfl (bd32_ ) ?_) | (refine g_c_len ?_; refine st_val rfl (r_lenSlice rfl) ?_) | (refine g_store ?_; first | (refine st_skipE rfl (r_storeVar (i := 0) S rfl rfl rfl rfl (of_decide_eq_true rfl) (of_decide_eq_true rfl)) ?_; intro w S'; replace S := S'; clear S') | (refine st_skipE rfl (r_storeVar (i := 1) S rfl rfl rfl rfl (of_decide_eq_true rfl) (of_decide_eq_true rfl)) ?_; intro w S'; replace S := S'; clear S') | (refine st_skipE rfl (r_storeVar (i := 2) S rfl rfl rfl rfl (of_decide_eq_true rfl) (of_decide_eq_true rfl)) ?_; intro w S'; replace S := S'; clear S')) | (refine WP_cond rfl (fun h => ?_) (fun h => ?_) <;> (fail_if_success (have hh : true = true := h)) <;> (try simp only [decide_eq_true_eq, decide_eq_false_iff_not, Bool.not_eq_true', Bool.not_eq_false', Int.not_lt, Int.not_le] at h) <;> (try (exfalso; omega))))
      exact endCT rfl rfl rfl S (i := 0) rfl rfl ⟨_, rfl, S.below, 0, 0, 0, rfl, .inl ⟨rfl, rfl, rfl, hz rfl⟩⟩
    · obtain ⟨p1, p2, p3⟩ := hp (by omega)
      obtain ⟨B, hB2⟩ := to_bound l
      repeat' (first | refine WP_seq ?_ | refine WP_region ?_ | refine wl_nil ?_ | refine then_normal ?_ | refine then_exit ?_ | refine inB_here ?_ | refine WP_skip ?_ | refine WP_exit ?_ | refine WP_block ?_ | (refine g_move ?_; refine st_move rfl ?_) | (refine g_assign ?_; refine st_assign rfl ?_) | (refine g_b_eql ?_; refine st_val rfl (r_eql rfl rfl) ?_) | (refine g_b_lss ?_; refine st_val rfl (r_lss rfl rfl) ?_) | (refine g_c_len ?_; refine st_val rfl (r_lenSlice rfl) ?_) | (refine WP_cond rfl (fun h => ?_) (fun h => ?_) <;> (fail_if_success (have hh : true = true := h)) <;> (try simp only [decide_eq_true_eq, decide_eq_false_iff_not, Bool.not_eq_true', Bool.not_eq_false', Int.not_lt, Int.not_le] at h) <;> (try (exfalso; omega))))
      refine WP_loop (fun k σ w1 => ∃ (t : Int), Has σ [(0, .slice A l.length c), (2, .pointer (some ⟨b2, 0, none⟩)), (4, .int .i64 m), (5, .int .i64 f), (8, .int .i64 t)] ∧ St w0 w1 [.var b2 32 [.int .i64 0, .int .i64 0]] ∧ f ≤ t ∧ (∀ s, f ≤ s → s < t → insideI l s = m) ∧ k = (B - t).toNat) _ ⟨f, ⟨rfl, rfl, rfl, rfl, rfl, trivial⟩, S, by omega, fun s h1 h2 => by omega, rfl⟩ ?_
      clear S hs
      rintro k σ w1 ⟨t, hs, S, ft, hc, rfl⟩
      refine WP_has hs ?_
      have hit := p1 t
      by_cases ht : insideI l t = m
      · repeat' (first | refine WP_seq ?_ | refine WP_region ?_ | refine wl_nil ?_ | refine then_normal ?_ | refine WP_skip ?_ | refine WP_block ?_ | (refine g_move ?_; refine st_move rfl ?_) | (refine g_assign ?_; refine st_assign rfl ?_) | (refine g_b_eql ?_; refine st_val rfl (r_eql rfl rfl) ?_) | (refine g_callV ?_; (refine st_callV rfl (r_call2 rfl rfl rfl) (insideR_spec (hr.mono S.below) hl) ?_; intro w hb; replace S := S.grow hb; clear hb)) | (refine WP_cond rfl (fun h => ?_) (fun h => ?_) <;> (fail_if_success (have hh : true = true := h)) <;> (try simp only [decide_eq_true_eq, decide_eq_false_iff_not, Bool.not_eq_true', Bool.not_eq_false', Int.not_lt, Int.not_le] at h) <;> (try (exfalso; omega))))
        refine WP_loop (fun k σ w1 => ∃ (i n : Int), Has σ [(0, .slice A l.length c), (2, .pointer (some ⟨b2, 0, none⟩)), (4, .int .i64 m), (5, .int .i64 f), (8, .int .i64 t), (9, .int .i64 n), (10, .int .i64 i)] ∧ St w0 w1 [.var b2 32 [.int .i64 0, .int .i64 0]] ∧ 0 ≤ i ∧ i ≤ l.length ∧ NextI (l.take i.toNat) t n ∧ k = l.length - i.toNat) l.length ⟨0, t, ⟨rfl, rfl, rfl, rfl, rfl, rfl, rfl, trivial⟩, S, by omega, by omega, .inl ⟨rfl, fun x hx => by simp at hx⟩, by omega⟩ ?_
        clear S hs
        rintro k σ w1 ⟨i, n, hs, S, a0, a1, hN, rfl⟩
        refine WP_has hs ?_
        by_cases hi : i < l.length
        · repeat' (first | refine WP_seq ?_ | refine WP_region ?_ | refine wl_nil ?_ | refine then_normal ?_ | refine inB_normal ?_ | refine WP_skip ?_ | refine WP_block ?_ | refine WP_condT rfl ?_ | refine WP_condF rfl ?_ | (refine g_guard ?_; refine st_off rfl ?_) | (refine g_move ?_; refine st_move rfl ?_) | (refine g_assign ?_; refine st_assign rfl ?_) | (refine g_pick ?_; first | refine st_pickT rfl rfl ?_ | refine st_pickF rfl rfl ?_) | (refine g_b_add ?_; (refine st_val rfl (r_addN rfl rfl ?_ ?_) ?_; (first | omega | (simp <;> omega)); (first | omega | (simp <;> omega)))) | (refine g_b_eql ?_; refine st_val rfl (r_eql rfl rfl) ?_) | (refine g_b_lss ?_; refine st_val rfl (r_lss rfl rfl) ?_) | (refine g_b_gtr ?_; refine st_val rfl (r_gtr rfl rfl) ?_) | (refine g_c_len ?_; refine st_val rfl (r_lenSlice rfl) ?_) | (refine g_fieldAddr ?_; refine st_val rfl (r_fieldAddr rfl) ?_) | (refine g_indexAddr ?_; (refine st_val rfl (r_indexAddr (hr.mono S.below) rfl rfl ?_ ?_) ?_; (first | omega | (simp <;> omega)); (first | omega | (simp <;> omega)))) | (refine g_load ?_; first | (refine st_val rfl (r_loadElem1 (hr.mono S.below) rfl ?_ ?_ rfl) ?_; (first | omega | (simp <;> omega)); (first | omega | (simp <;> omega))) | (refine st_val rfl (r_loadElemF (hr.mono S.below) rfl ?_ ?_ rfl) ?_; (first | omega | (simp <;> omega)); (first | omega | (simp <;> omega)))) | (refine wl_split rfl rfl (fun h => ?_) (fun h => ?_) <;> (fail_if_success (have hh : true = true := h)) <;> (try simp only [decide_eq_true_eq, decide_eq_false_iff_not, Bool.not_eq_true', Bool.not_eq_false', Int.not_lt, Int.not_le] at h) <;> (try (exfalso; omega))) | (refine WP_cond rfl (fun h => ?_) (fun h => ?_) <;> (fail_if_success (have hh : true = true := h)) <;> (try simp only [decide_eq_true_eq, decide_eq_false_iff_not, Bool.not_eq_true', Bool.not_eq_false', Int.not_lt, Int.not_le] at h) <;> (try (exfalso; omega))))
          all_goals first
            | (refine ⟨⟨_, ?_, i + 1, n, ⟨rfl, rfl, rfl, rfl, rfl, rfl, rfl, trivial⟩, S, by omega, by omega, next_step a0 hi hN (n' := n) (by rw [if_neg (by omega)]) (by rw [if_neg (by omega)]), rfl⟩⟩; omega)
            | (refine ⟨⟨_, ?_, i + 1, (nth l i).From, ⟨rfl, rfl, rfl, rfl, rfl, rfl, rfl, trivial⟩, S, by omega, by omega, next_step a0 hi hN (n' := (nth l i).From) (by rw [if_pos (by omega)]) (by rw [if_neg (by omega)]), rfl⟩⟩; omega)
            | (refine ⟨⟨_, ?_, i + 1, (nth l i).To, ⟨rfl, rfl, rfl, rfl, rfl, rfl, rfl, trivial⟩, S, by omega, by omega, next_step a0 hi hN (n' := n) (by rw [if_neg (by omega)]) (by rw [if_pos (by omega)]), rfl⟩⟩; omega)
            | (refine ⟨⟨_, ?_, i + 1, (nth l i).To, ⟨rfl, rfl, rfl, rfl, rfl, rfl, rfl, trivial⟩, S, by omega, by omega, next_step a0 hi hN (n' := (nth l i).From) (by rw [if_pos (by omega)]) (by rw [if_pos (by omega)]), rfl⟩⟩; omega)
            | trace_state
        · rw [show i.toNat = l.length by omega, List.take_of_length_le (Nat.le_refl _)] at hN
          obtain ⟨x, hx, x1, x2⟩ := inside_pos (l := l) (s := t) (by omega)
          rcases hN with ⟨_, hN⟩ | ⟨hN, ⟨y, hy, hy2⟩, hN2⟩
          · have := hN x hx; omega
          · have hyb := hB2 y hy
            repeat' (first | refine WP_seq ?_ | refine WP_region ?_ | refine wl_nil ?_ | refine then_normal ?_ | refine inB_normal ?_ | refine then_exit ?_ | refine inB_here ?_ | refine WP_exit ?_ | (refine g_move ?_; refine st_move rfl ?_) | (refine g_assign ?_; refine st_assign rfl ?_) | (refine g_b_lss ?_; refine st_val rfl (r_lss rfl rfl) ?_) | (refine g_c_len ?_; refine st_val rfl (r_lenSlice rfl) ?_) | (refine WP_cond rfl (fun h => ?_) (fun h => ?_) <;> (fail_if_success (have hh : true = true := h)) <;> (try simp only [decide_eq_true_eq, decide_eq_false_iff_not, Bool.not_eq_true', Bool.not_eq_false', Int.not_lt, Int.not_le] at h) <;> (try (exfalso; omega))))
            refine ⟨⟨_, ?_, n, ⟨rfl, rfl, rfl, rfl, rfl, trivial⟩, S, by omega, fun s h1 h2 => ?_, rfl⟩⟩
            · omega
            · by_cases c : s < t
              · exact hc s h1 c
              · rw [next_const hN2 (by omega) h2]; exact ht
      · repeat' (first | refine WP_seq ?_ | refine WP_region ?_ | refine wl_nil ?_ | refine then_normal ?_ | refine then_exit ?_ | refine inB_here ?_ | refine WP_ret ?_ | refine WP_exit ?_ | (refine g_move ?_; refine st_move rfl ?_) | (refine g_assign ?_; refine st_assign rfl ?_) | (refine g_b_eql ?_; refine st_val rfl (r_eql rfl rfl) ?_) | (refine g_build ?_; refine st_val rfl (bd32_0_1 rfl rfl) ?_) | (refine g_callV ?_; (refine st_callV rfl (r_call2 rfl rfl rfl) (insideR_spec (hr.mono S.below) hl) ?_; intro w hb; replace S := S.grow hb; clear hb)) | (refine g_store ?_; first | (refine st_skipE rfl (r_storeVar (i := 0) S rfl rfl rfl rfl (of_decide_eq_true rfl) (of_decide_eq_true rfl)) ?_; intro w S'; replace S := S'; clear S') | (refine st_skipE rfl (r_storeVar (i := 1) S rfl rfl rfl rfl (of_decide_eq_true rfl) (of_decide_eq_true rfl)) ?_; intro w S'; replace S := S'; clear S') | (refine st_skipE rfl (r_storeVar (i := 2) S rfl rfl rfl rfl (of_decide_eq_true rfl) (of_decide_eq_true rfl)) ?_; intro w S'; replace S := S'; clear S')) | (refine WP_cond rfl (fun h => ?_) (fun h => ?_) <;> (fail_if_success (have hh : true = true := h)) <;> (try simp only [decide_eq_true_eq, decide_eq_false_iff_not, Bool.not_eq_true', Bool.not_eq_false', Int.not_lt, Int.not_le] at h) <;> (try (exfalso; omega))))
        have hft : f < t := by
          by_cases e : f = t
          · subst e; exact absurd p2 ht
          · omega
        exact endCT rfl rfl rfl S (i := 0) rfl rfl ⟨_, rfl, S.below, f, t, m, rfl, .inr ⟨by omega, p1, p2, p3, hft, hc, by omega⟩⟩
end Go.Proofs.Ytgphmhpcaeiglaa
