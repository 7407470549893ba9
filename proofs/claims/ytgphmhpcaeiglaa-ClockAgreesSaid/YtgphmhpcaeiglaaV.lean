import Derived.Test.YtgphmhpcaeiglaaU
namespace Go.Proofs.Ytgphmhpcaeiglaa
open Go Go.Gx Go.RowKit
set_option linter.unusedVariables false
set_option linter.unusedSimpArgs false

theorem inL_spec {v : Value} {l : List GSpell} {s : Int} {w0 : World} (hr : Rd fGSpell.ty w0 v l) (hl : l.length ≤ 100000) :
    CallsV Try.prog 40 #[v, .int .i64 s] w0 (.int .i64 (insideI l s)) := by
  have S := St.start w0
  obtain ⟨A, c, rfl⟩ := hr.len
  refine CallsV.mk ?_
  refine calls_enter Try.func40 rfl Try.ntmps40 rfl ?_
  repeat' (first | refine WP_seq ?_ | refine WP_region ?_ | refine wl_nil ?_ | refine then_normal ?_ | refine WP_block ?_ | (refine g_assign ?_; refine st_assign rfl ?_))
  refine WP_loop (fun k σ w1 => ∃ i : Int, Has σ [(0, .slice A l.length c), (1, .int .i64 s), (5, .int .i64 (insideI (l.take i.toNat) s)), (6, .int .i64 i)] ∧ St w0 w1 [] ∧ 0 ≤ i ∧ i ≤ l.length ∧ k = l.length - i.toNat) l.length ⟨0, ⟨rfl, rfl, rfl, rfl, trivial⟩, S, by omega, by omega, by omega⟩ ?_
  clear S
  rintro k σ w1 ⟨i, hs, S, a0, a1, rfl⟩
  refine WP_has hs ?_
  by_cases hi : i < l.length
  · have hn := inside_range (l.take i.toNat) s
    rw [List.length_take] at hn
    have hx := inside_next (s := s) a0 hi
    repeat' (first | refine WP_seq ?_ | refine WP_region ?_ | refine wl_nil ?_ | refine then_normal ?_ | refine inB_normal ?_ | refine WP_skip ?_ | refine WP_block ?_ | refine WP_condF rfl ?_ | (refine g_guard ?_; refine st_off rfl ?_) | (refine g_move ?_; refine st_move rfl ?_) | (refine g_assign ?_; refine st_assign rfl ?_) | (refine g_pick ?_; first | refine st_pickT rfl rfl ?_ | refine st_pickF rfl rfl ?_) | (refine g_b_add ?_; (refine st_val rfl (r_addN rfl rfl ?_ ?_) ?_; (first | omega | (simp <;> omega)); (first | omega | (simp <;> omega)))) | (refine g_b_lss ?_; refine st_val rfl (r_lss rfl rfl) ?_) | (refine g_b_leq ?_; refine st_val rfl (r_leq rfl rfl) ?_) | (refine g_c_len ?_; refine st_val rfl (r_lenSlice rfl) ?_) | (refine g_fieldAddr ?_; refine st_val rfl (r_fieldAddr rfl) ?_) | (refine g_indexAddr ?_; (refine st_val rfl (r_indexAddr (hr.mono S.below) rfl rfl ?_ ?_) ?_; (first | omega | (simp <;> omega)); (first | omega | (simp <;> omega)))) | (refine g_load ?_; first | (refine st_val rfl (r_loadElem1 (hr.mono S.below) rfl ?_ ?_ rfl) ?_; (first | omega | (simp <;> omega)); (first | omega | (simp <;> omega))) | (refine st_val rfl (r_loadElemF (hr.mono S.below) rfl ?_ ?_ rfl) ?_; (first | omega | (simp <;> omega)); (first | omega | (simp <;> omega)))) | (refine wl_split rfl rfl (fun h => ?_) (fun h => ?_) <;> (fail_if_success (have hh : true = true := h)) <;> (try simp only [decide_eq_true_eq, decide_eq_false_iff_not, Bool.not_eq_true', Bool.not_eq_false', Int.not_lt, Int.not_le] at h) <;> (try (exfalso; omega))) | (refine WP_cond rfl (fun h => ?_) (fun h => ?_) <;> (fail_if_success (have hh : true = true := h)) <;> (try simp only [decide_eq_true_eq, decide_eq_false_iff_not, Bool.not_eq_true', Bool.not_eq_false', Int.not_lt, Int.not_le] at h) <;> (try (exfalso; omega))))
    all_goals first
      | (refine ⟨⟨_, ?_, i + 1, ⟨rfl, rfl, vi (by rw [hx, if_pos (by omega)]), rfl, trivial⟩, S, by omega, by omega, rfl⟩⟩; omega)
      | (refine ⟨⟨_, ?_, i + 1, ⟨rfl, rfl, vi (by rw [hx, if_neg (by omega), Int.add_zero]), rfl, trivial⟩, S, by omega, by omega, rfl⟩⟩; omega)
      | trace_state
  · repeat' (first | refine WP_seq ?_ | refine WP_region ?_ | refine wl_nil ?_ | refine then_normal ?_ | refine then_exit ?_ | refine inB_here ?_ | refine WP_ret ?_ | refine WP_exit ?_ | (refine g_move ?_; refine st_move rfl ?_) | (refine g_assign ?_; refine st_assign rfl ?_) | (refine g_b_lss ?_; refine st_val rfl (r_lss rfl rfl) ?_) | (refine g_c_len ?_; refine st_val rfl (r_lenSlice rfl) ?_) | (refine WP_cond rfl (fun h => ?_) (fun h => ?_) <;> (fail_if_success (have hh : true = true := h)) <;> (try simp only [decide_eq_true_eq, decide_eq_false_iff_not, Bool.not_eq_true', Bool.not_eq_false', Int.not_lt, Int.not_le] at h) <;> (try (exfalso; omega))))
    refine end1 rfl rfl ⟨ri ?_, S.below⟩
    rw [show i.toNat = l.length by omega, List.take_of_length_le (Nat.le_refl _)]

theorem oneI : ∀ x, ∀ u ∈ (fInt .i64).enc x, u.oneCell' = true := fun x u hu => by simp [fInt] at hu; rcases hu with rfl; rfl
theorem oneS : ∀ x, ∀ u ∈ fGSpell.enc x, u.oneCell' = true := fun x u hu => by simp [fGSpell, GSpell.enc] at hu; rcases hu with rfl | rfl <;> rfl
theorem empties {l : List GSpell} (h : ∀ s, insideI l s = 0) : ∀ x ∈ l, ¬ x.From < x.To := by
  intro x hx hlt
  have : 0 < insideI l x.From := by
    induction l with
    | nil => cases hx
    | cons a r ih =>
      have hr : ∀ s, 0 ≤ insideI r s := fun s => (inside_range r s).1
      simp only [insideI] at h ⊢
      rcases List.mem_cons.1 hx with rfl | hx
      · have := hr x.From; rw [if_pos (by omega)]; omega
      · have h2 := ih (fun s => by have := h s; have := hr s; (repeat' split at this) <;> omega) hx
        split <;> omega
  have := h x.From
  omega

set_option maxRecDepth 8000 in
set_option maxHeartbeats 2000000 in
theorem agrees_spec {v : Value} {l : List GSpell} {s : Int} {w0 : World} (hr : Rd fGSpell.ty w0 v l) (hl : l.length ≤ 1000) :
    CallsV Try.prog 28 #[v, .int .i64 s] w0 (.bool true) := by
  have S := St.start w0
  obtain ⟨A, c, rfl⟩ := hr.len
  have hl2 : l.length ≤ 100000 := by omega
  refine CallsV.mk ?_
  refine calls_enter Try.func28 rfl Try.ntmps28 rfl ?_
  repeat' (first | refine WP_seq ?_ | refine WP_region ?_ | refine wl_nil ?_ | refine then_normal ?_ | (refine g_move ?_; refine st_move rfl ?_) | (refine g_assign ?_; refine st_assign rfl ?_))
  refine st_callR rfl (r_call1 rfl rfl) (agree_spec (hr.mono S.below) hl2) ?_
  rintro _ w hb ⟨f, t, k, rfl, hok⟩; replace S := S.grow hb; clear hb
  repeat' (first | refine WP_seq ?_ | refine WP_region ?_ | refine wl_nil ?_ | refine then_normal ?_ | (refine g_move ?_; refine st_move rfl ?_) | (refine g_assign ?_; refine st_assign rfl ?_) | (refine g_extract ?_; refine st_val rfl (r_extract rfl rfl) ?_) | (refine g_alloc ?_; refine st_valE rfl (r_alloc S) ?_; rintro _ w ⟨b, rfl, -, S'⟩; replace S := S'; clear S') | (refine g_store ?_; first | (refine st_skipE rfl (r_storeVar (i := 0) S rfl rfl rfl rfl (of_decide_eq_true rfl) (of_decide_eq_true rfl)) ?_; intro w S'; replace S := S'; clear S') | (refine st_skipE rfl (r_storeVar (i := 1) S rfl rfl rfl rfl (of_decide_eq_true rfl) (of_decide_eq_true rfl)) ?_; intro w S'; replace S := S'; clear S') | (refine st_skipE rfl (r_storeVar (i := 2) S rfl rfl rfl rfl (of_decide_eq_true rfl) (of_decide_eq_true rfl)) ?_; intro w S'; replace S := S'; clear S')))
  obtain ⟨b5, rfl⟩ : ∃ z, z = b := ⟨_, rfl⟩
  refine st_valE rfl (r_litF (D := fInt .i64) [s] (Value.int .i64) S rfl rfl (fun _ => rfl) rfl (by decide) (by decide)) ?_
  rintro _ w ⟨bl, rfl, -, -, S'⟩; replace S := S'; clear S'
  repeat' (first | refine WP_seq ?_ | refine WP_region ?_ | refine wl_nil ?_ | refine then_normal ?_ | refine WP_block ?_ | (refine g_assign ?_; refine st_assign rfl ?_))
  refine WP_loop (fun j σ w1 => ∃ (i : Int) (va : Value) (al : List Int), Has σ [(0, .slice A l.length c), (5, .pointer (some ⟨b5, 0, none⟩)), (6, .int .i64 k), (7, va), (8, .int .i64 i)] ∧ St w0 w1 [.var b5 32 [.int .i64 f, .int .i64 t], rowOb (fInt .i64) 3 va al] ∧ 0 ≤ i ∧ i ≤ l.length ∧ j = l.length - i.toNat ∧ (al.length : Int) ≤ 1 + 2 * i) l.length ⟨0, _, [s], ⟨rfl, rfl, rfl, rfl, rfl, trivial⟩, S, by omega, by omega, by omega, by simp⟩ ?_
  clear S
  rintro j σ w1 ⟨i, va, al, hs', S, a0, a1, rfl, hal⟩
  refine WP_has hs' ?_
  by_cases hi : i < l.length
  · repeat' (first | refine WP_seq ?_ | refine WP_region ?_ | refine wl_nil ?_ | refine then_normal ?_ | refine WP_skip ?_ | refine WP_block ?_ | refine WP_drawTail 11 (by kernel_rfl) (by decide +kernel) ?_ | (refine ql_nil ?_; intro w hb; replace S := S.grow hb; clear hb) | (refine g_move ?_; refine st_move rfl ?_) | (refine g_b_lss ?_; refine st_val rfl (r_lss rfl rfl) ?_) | (refine g_c_len ?_; refine st_val rfl (r_lenSlice rfl) ?_) | (refine gq_move ?_; refine q_move rfl ?_) | (refine gq_fieldAddr ?_; refine q_val rfl (fun w' hb => r_fieldAddr rfl) ?_) | (refine gq_indexAddr ?_; (refine q_val rfl (fun w' hb => r_indexAddr (hr.mono (S.grow hb).below) rfl rfl ?_ ?_) ?_; (first | omega | (simp <;> omega)); (first | omega | (simp <;> omega)))) | (refine gq_load ?_; first | (refine q_val rfl (fun w' hb => r_loadElem1 (hr.mono (S.grow hb).below) rfl ?_ ?_ rfl) ?_; (first | omega | (simp <;> omega)); (first | omega | (simp <;> omega))) | (refine q_val rfl (fun w' hb => r_loadElemF (hr.mono (S.grow hb).below) rfl ?_ ?_ rfl) ?_; (first | omega | (simp <;> omega)); (first | omega | (simp <;> omega)))) | (refine WP_cond rfl (fun h => ?_) (fun h => ?_) <;> (fail_if_success (have hh : true = true := h)) <;> (try simp only [decide_eq_true_eq, decide_eq_false_iff_not, Bool.not_eq_true', Bool.not_eq_false', Int.not_lt, Int.not_le] at h) <;> (try (exfalso; omega))))
    refine st_valE rfl (r_litF (D := fInt .i64) [(nth l i).From, (nth l i).To] (Value.int .i64) S rfl rfl (fun _ => rfl) rfl (by decide) (by decide)) ?_
    rintro _ w ⟨bl, rfl, -, -, S'⟩; replace S := S'; clear S'
    refine st_valE rfl (r_appendRd (D := fInt .i64) (i := 1) S rfl (S.rdRow (D := fInt .i64) (i := 2) rfl) rfl rfl rfl (by decide) oneI (by simp; omega) (by simp; omega)) ?_
    rintro va' w ⟨-, S'⟩; replace S := S'; clear S'
    repeat' (first | refine WP_region ?_ | refine wl_nil ?_ | refine then_normal ?_ | refine inB_normal ?_ | (refine g_move ?_; refine st_move rfl ?_) | (refine g_assign ?_; refine st_assign rfl ?_) | (refine g_b_add ?_; (refine st_val rfl (r_addN rfl rfl ?_ ?_) ?_; (first | omega | (simp <;> omega)); (first | omega | (simp <;> omega)))))
    refine ⟨⟨_, ?_, i + 1, va', _, ⟨rfl, rfl, rfl, rfl, rfl, trivial⟩, S.keep [true, true, false], by omega, by omega, rfl, by simp; omega⟩⟩
    omega
  · obtain ⟨Aa, ca, rfl⟩ := (S.rdRow (D := fInt .i64) (i := 1) rfl).len
    rcases hok with ⟨k0, f0, t0, hz⟩ | ⟨k0, h1, h2, h3, h4, h5, h6⟩
    · subst k0 f0 t0
      have hem := empties hz
      repeat' (first | refine WP_seq ?_ | refine WP_region ?_ | refine wl_nil ?_ | refine then_normal ?_ | refine then_exit ?_ | refine inB_here ?_ | refine WP_exit ?_ | refine WP_block ?_ | refine WP_condT rfl ?_ | (refine g_move ?_; refine st_move rfl ?_) | (refine g_assign ?_; refine st_assign rfl ?_) | (refine g_b_eql ?_; refine st_val rfl (r_eql rfl rfl) ?_) | (refine g_b_lss ?_; refine st_val rfl (r_lss rfl rfl) ?_) | (refine g_c_len ?_; refine st_val rfl (r_lenSlice rfl) ?_) | (refine WP_cond rfl (fun h => ?_) (fun h => ?_) <;> (fail_if_success (have hh : true = true := h)) <;> (try simp only [decide_eq_true_eq, decide_eq_false_iff_not, Bool.not_eq_true', Bool.not_eq_false', Int.not_lt, Int.not_le] at h) <;> (try (exfalso; omega))))
      refine WP_loop (fun j σ w1 => ∃ (i : Int), Has σ [(0, .slice A l.length c), (5, .pointer (some ⟨b5, 0, none⟩)), (9, .int .i64 i)] ∧ St w0 w1 [.var b5 32 [.int .i64 0, .int .i64 0]] ∧ 0 ≤ i ∧ i ≤ l.length ∧ j = l.length - i.toNat) l.length ⟨0, ⟨rfl, rfl, rfl, trivial⟩, S.keep [true, false], by omega, by omega, by omega⟩ ?_
      clear S hs'
      rintro j σ w1 ⟨i, hs', S, a0, a1, rfl⟩
      refine WP_has hs' ?_
      by_cases hi : i < l.length
      · have := hem _ (nth_mem a0 hi)
        repeat' (first | refine WP_seq ?_ | refine WP_region ?_ | refine wl_nil ?_ | refine then_normal ?_ | refine inB_normal ?_ | refine WP_skip ?_ | refine WP_block ?_ | refine WP_draw (by kernel_rfl) (by kernel_rfl) ?_ | (refine ql_nil ?_; intro w hb; replace S := S.grow hb; clear hb) | (refine g_move ?_; refine st_move rfl ?_) | (refine g_assign ?_; refine st_assign rfl ?_) | (refine g_b_add ?_; (refine st_val rfl (r_addN rfl rfl ?_ ?_) ?_; (first | omega | (simp <;> omega)); (first | omega | (simp <;> omega)))) | (refine g_b_lss ?_; refine st_val rfl (r_lss rfl rfl) ?_) | (refine g_c_len ?_; refine st_val rfl (r_lenSlice rfl) ?_) | (refine gq_move ?_; refine q_move rfl ?_) | (refine gq_b_lss ?_; refine q_val rfl (fun w' hb => r_lss rfl rfl) ?_) | (refine gq_fieldAddr ?_; refine q_val rfl (fun w' hb => r_fieldAddr rfl) ?_) | (refine gq_indexAddr ?_; (refine q_val rfl (fun w' hb => r_indexAddr (hr.mono (S.grow hb).below) rfl rfl ?_ ?_) ?_; (first | omega | (simp <;> omega)); (first | omega | (simp <;> omega)))) | (refine gq_load ?_; first | (refine q_val rfl (fun w' hb => r_loadElem1 (hr.mono (S.grow hb).below) rfl ?_ ?_ rfl) ?_; (first | omega | (simp <;> omega)); (first | omega | (simp <;> omega))) | (refine q_val rfl (fun w' hb => r_loadElemF (hr.mono (S.grow hb).below) rfl ?_ ?_ rfl) ?_; (first | omega | (simp <;> omega)); (first | omega | (simp <;> omega)))) | (refine WP_cond rfl (fun h => ?_) (fun h => ?_) <;> (fail_if_success (have hh : true = true := h)) <;> (try simp only [decide_eq_true_eq, decide_eq_false_iff_not, Bool.not_eq_true', Bool.not_eq_false', Int.not_lt, Int.not_le] at h) <;> (try (exfalso; omega))))
        refine ⟨⟨_, ?_, i + 1, ⟨rfl, rfl, rfl, trivial⟩, S, by omega, by omega, rfl⟩⟩
        omega
      · repeat' (first | refine WP_seq ?_ | refine WP_region ?_ | refine wl_nil ?_ | refine then_normal ?_ | refine then_exit ?_ | refine inB_here ?_ | refine then_ret ?_ | refine WP_ret ?_ | refine WP_exit ?_ | (refine g_move ?_; refine st_move rfl ?_) | (refine g_assign ?_; refine st_assign rfl ?_) | (refine g_b_eql ?_; refine st_val rfl (eql32 rfl rfl) ?_) | (refine g_b_lss ?_; refine st_val rfl (r_lss rfl rfl) ?_) | (refine g_build ?_; refine st_val rfl (bd32_ ) ?_) | (refine g_c_len ?_; refine st_val rfl (r_lenSlice rfl) ?_) | (refine g_load ?_; refine st_val rfl (r_loadVarA (i := 0) S rfl rfl rfl rfl) ?_) | (refine WP_cond rfl (fun h => ?_) (fun h => ?_) <;> (fail_if_success (have hh : true = true := h)) <;> (try simp only [decide_eq_true_eq, decide_eq_false_iff_not, Bool.not_eq_true', Bool.not_eq_false', Int.not_lt, Int.not_le] at h) <;> (try (exfalso; omega))))
        exact end1 rfl rfl ⟨rb (by simp), S.below⟩
    · repeat' (first | refine WP_seq ?_ | refine WP_region ?_ | refine wl_nil ?_ | refine then_normal ?_ | refine then_exit ?_ | refine inB_here ?_ | refine WP_skip ?_ | refine WP_exit ?_ | refine WP_block ?_ | (refine g_move ?_; refine st_move rfl ?_) | (refine g_assign ?_; refine st_assign rfl ?_) | (refine g_pick ?_; refine st_pickF rfl rfl ?_) | (refine g_b_eql ?_; refine st_val rfl (r_eql rfl rfl) ?_) | (refine g_b_neq ?_; refine st_val rfl (r_neq rfl rfl) ?_) | (refine g_b_lss ?_; refine st_val rfl (r_lss rfl rfl) ?_) | (refine g_b_geq ?_; refine st_val rfl (r_geq rfl rfl) ?_) | (refine g_c_len ?_; refine st_val rfl (r_lenSlice rfl) ?_) | (refine g_fieldAddr ?_; refine st_val rfl (r_fieldAddrL rfl) ?_) | (refine g_load ?_; refine st_val rfl (r_loadVar (i := 0) S rfl rfl rfl) ?_) | (refine g_callV ?_; (refine st_callV rfl (r_call2 rfl rfl rfl) (inL_spec (hr.mono S.below) hl2) ?_; intro w hb; replace S := S.grow hb; clear hb)) | (refine wl_split rfl rfl (fun h => ?_) (fun h => ?_) <;> (fail_if_success (have hh : true = true := h)) <;> (try simp only [decide_eq_true_eq, decide_eq_false_iff_not, Bool.not_eq_true', Bool.not_eq_false', Int.not_lt, Int.not_le] at h) <;> (try (exfalso; omega))) | (refine WP_cond rfl (fun h => ?_) (fun h => ?_) <;> (fail_if_success (have hh : true = true := h)) <;> (try simp only [decide_eq_true_eq, decide_eq_false_iff_not, Bool.not_eq_true', Bool.not_eq_false', Int.not_lt, Int.not_le] at h) <;> (try (exfalso; omega))))
      refine WP_loop (fun j σ w1 => ∃ (i : Int), Has σ [(0, .slice A l.length c), (5, .pointer (some ⟨b5, 0, none⟩)), (6, .int .i64 k), (7, .slice Aa al.length ca), (10, .int .i64 i)] ∧ St w0 w1 [.var b5 32 [.int .i64 f, .int .i64 t], rowOb (fInt .i64) 3 (.slice Aa al.length ca) al] ∧ 0 ≤ i ∧ i ≤ al.length ∧ j = al.length - i.toNat) al.length ⟨0, ⟨rfl, rfl, rfl, rfl, rfl, trivial⟩, S, by omega, by omega, by omega⟩ ?_
      clear S hs'
      rintro j σ w1 ⟨i, hs', S, a0, a1, rfl⟩
      refine WP_has hs' ?_
      by_cases hi : i < al.length
      · have g1 := h1 (nth al i)
        have g3 := h3 (nth al i)
        have g5 := h5 (nth al i)
        repeat' (first | refine WP_seq ?_ | refine WP_region ?_ | refine wl_nil ?_ | refine then_normal ?_ | refine inB_normal ?_ | refine WP_skip ?_ | refine WP_block ?_ | refine WP_condF rfl ?_ | refine WP_draw (by kernel_rfl) (by kernel_rfl) ?_ | (refine ql_nil ?_; intro w hb; replace S := S.grow hb; clear hb) | (refine g_move ?_; refine st_move rfl ?_) | (refine g_assign ?_; refine st_assign rfl ?_) | (refine g_b_add ?_; (refine st_val rfl (r_addN rfl rfl ?_ ?_) ?_; (first | omega | (simp <;> omega)); (first | omega | (simp <;> omega)))) | (refine g_b_lss ?_; refine st_val rfl (r_lss rfl rfl) ?_) | (refine g_c_len ?_; refine st_val rfl (r_lenSlice rfl) ?_) | (refine g_indexAddr ?_; (refine st_val rfl (r_indexAddr (S.rdRow (D := (fInt .i64)) (i := 1) rfl) rfl rfl ?_ ?_) ?_; (first | omega | (simp <;> omega)); (first | omega | (simp <;> omega)))) | (refine g_load ?_; (refine st_val rfl (r_loadElem1 (S.rdRow (D := (fInt .i64)) (i := 1) rfl) rfl ?_ ?_ rfl) ?_; (first | omega | (simp <;> omega)); (first | omega | (simp <;> omega)))) | (refine g_callV ?_; (refine st_callV rfl (r_call2 rfl rfl rfl) (inL_spec (hr.mono S.below) hl2) ?_; intro w hb; replace S := S.grow hb; clear hb)) | (refine gq_guard ?_; refine q_off rfl ?_) | (refine gq_move ?_; refine q_move rfl ?_) | (refine gq_assign ?_; refine q_assign rfl ?_) | (refine gq_pick ?_; first | refine q_pickT rfl rfl ?_ | refine q_pickF rfl rfl ?_) | (refine gq_b_eql ?_; refine q_val rfl (fun w' hb => r_eql rfl rfl) ?_) | (refine gq_b_neq ?_; refine q_val rfl (fun w' hb => r_neq rfl rfl) ?_) | (refine gq_b_lss ?_; refine q_val rfl (fun w' hb => r_lss rfl rfl) ?_) | (refine gq_b_leq ?_; refine q_val rfl (fun w' hb => r_leq rfl rfl) ?_) | (refine gq_b_gtr ?_; refine q_val rfl (fun w' hb => r_gtr rfl rfl) ?_) | (refine gq_fieldAddr ?_; refine q_val rfl (fun w' hb => r_fieldAddrL rfl) ?_) | (refine gq_indexAddr ?_; (refine q_val rfl (fun w' hb => r_indexAddr ((S.grow hb).rdRow (D := (fInt .i64)) (i := 1) rfl) rfl rfl ?_ ?_) ?_; (first | omega | (simp <;> omega)); (first | omega | (simp <;> omega)))) | (refine gq_load ?_; first | (refine q_val rfl (fun w' hb => r_loadElem1 ((S.grow hb).rdRow (D := (fInt .i64)) (i := 1) rfl) rfl ?_ ?_ rfl) ?_; (first | omega | (simp <;> omega)); (first | omega | (simp <;> omega))) | refine q_val rfl (fun w' hb => r_loadVar (i := 0) (S.grow hb) rfl rfl rfl) ?_) | (refine ql_split rfl rfl (fun h => ?_) (fun h => ?_) <;> (fail_if_success (have hh : true = true := h)) <;> (try simp only [decide_eq_true_eq, decide_eq_false_iff_not, Bool.not_eq_true', Bool.not_eq_false', Int.not_lt, Int.not_le] at h) <;> (try (exfalso; omega))) | (refine WP_cond rfl (fun h => ?_) (fun h => ?_) <;> (fail_if_success (have hh : true = true := h)) <;> (try simp only [decide_eq_true_eq, decide_eq_false_iff_not, Bool.not_eq_true', Bool.not_eq_false', Int.not_lt, Int.not_le] at h) <;> (try (exfalso; omega))))
        all_goals first
          | (refine ⟨⟨_, ?_, i + 1, ⟨rfl, rfl, rfl, rfl, rfl, trivial⟩, S, by omega, by omega, rfl⟩⟩; omega)
          | (exfalso; omega)
          | trace_state
      · repeat' (first | refine WP_seq ?_ | refine WP_region ?_ | refine wl_nil ?_ | refine then_normal ?_ | refine then_exit ?_ | refine inB_here ?_ | refine WP_ret ?_ | refine WP_exit ?_ | (refine g_move ?_; refine st_move rfl ?_) | (refine g_assign ?_; refine st_assign rfl ?_) | (refine g_b_lss ?_; refine st_val rfl (r_lss rfl rfl) ?_) | (refine g_c_len ?_; refine st_val rfl (r_lenSlice rfl) ?_) | (refine WP_cond rfl (fun h => ?_) (fun h => ?_) <;> (fail_if_success (have hh : true = true := h)) <;> (try simp only [decide_eq_true_eq, decide_eq_false_iff_not, Bool.not_eq_true', Bool.not_eq_false', Int.not_lt, Int.not_le] at h) <;> (try (exfalso; omega))))
        exact end1 rfl rfl ⟨rfl, S.below⟩

set_option maxRecDepth 8000 in
set_option maxHeartbeats 2000000 in
theorem clockAgrees_spec {v : Value} {raw : List GSpell} {s : Int} {w0 : World} (hr : Rd fGSpell.ty w0 v raw) (hok : ∀ x ∈ raw, inI x.From ∧ inI x.To) (hl : raw.length ≤ maxLen) (i0 : inI s) :
    CallsV Try.prog 7 #[v, .int .i64 s] w0 (.bool true) := by
  have S := St.start w0
  obtain ⟨A, c, rfl⟩ := hr.len
  simp only [maxLen] at hl
  unfold inI at i0
  obtain ⟨p, hp⟩ : ∃ z, pickI s 42 = z := ⟨_, rfl⟩
  have rp := pickI_range (c := s) (n := 42) (by omega)
  rw [hp] at rp
  refine CallsV.mk ?_
  refine calls_enter Try.func7 rfl Try.ntmps7 rfl ?_
  repeat' (first | refine WP_seq ?_ | refine WP_region ?_ | refine wl_nil ?_ | refine then_normal ?_ | refine WP_skip ?_ | refine WP_condF rfl ?_ | (refine g_move ?_; refine st_move rfl ?_) | (refine g_assign ?_; refine st_assign rfl ?_) | (refine g_un ?_; refine st_val rfl (r_not rfl) ?_) | (refine g_c_min ?_; refine st_val rfl (r_min2 rfl rfl) ?_) | (refine g_c_len ?_; refine st_val rfl (r_lenSlice rfl) ?_) | (refine g_callV ?_; (refine st_callV rfl (r_call0 rfl) (sane_spec) ?_; intro w hb; replace S := S.grow hb; clear hb)))
  refine st_valE rfl (r_sliceHiE (hr.mono S.below) rfl rfl (by omega) (by omega)) ?_
  rintro _ _ ⟨rfl, A0, c0, rfl, hceq⟩
  have hcut := hr.cut (lo := 0) (hi := (min (raw.length : Int) 12).toNat) (by omega) (by omega)
  rw [List.drop_zero, ← hceq] at hcut
  clear hceq
  obtain ⟨l, hL0⟩ : ∃ l, l = raw.take (min (raw.length : Int) 12).toNat := ⟨_, rfl⟩
  rw [← hL0] at hcut
  have hl0 : l.length ≤ 12 := by rw [hL0, List.length_take]; omega
  have hok' : ∀ x ∈ l, inI x.From ∧ inI x.To := fun x hx => hok x (by rw [hL0] at hx; exact List.mem_of_mem_take hx)
  rw [← hL0]
  repeat' (first | refine WP_seq ?_ | refine WP_region ?_ | refine wl_nil ?_ | refine then_normal ?_ | refine WP_block ?_ | (refine g_assign ?_; refine st_assign rfl ?_))
  replace S := S.nilRow fGSpell 32
  refine WP_loop (fun j σ w1 => ∃ (i : Int) (vn : Value) (nl : List GSpell), Has σ [(0, .slice A0 l.length c0), (1, .int .i64 s), (6, vn), (7, .int .i64 i)] ∧ St w0 w1 [rowOb fGSpell 32 vn nl] ∧ 0 ≤ i ∧ i ≤ l.length ∧ j = l.length - i.toNat ∧ (nl.length : Int) = i) l.length ⟨0, _, [], ⟨rfl, rfl, rfl, rfl, trivial⟩, S, by omega, by omega, by omega, rfl⟩ ?_
  clear S
  rintro j σ w1 ⟨i, vn, nl, hs', S, a0, a1, rfl, hnl⟩
  refine WP_has hs' ?_
  by_cases hi : i < l.length
  · have hx := hok' _ (nth_mem a0 hi)
    unfold inI at hx
    obtain ⟨q1, hq1⟩ : ∃ z, pickI (nth l i).From 40 = z := ⟨_, rfl⟩
    obtain ⟨q2, hq2⟩ : ∃ z, pickI (nth l i).To 40 = z := ⟨_, rfl⟩
    repeat' (first | refine WP_seq ?_ | refine WP_region ?_ | refine wl_nil ?_ | refine then_normal ?_ | refine WP_skip ?_ | refine WP_block ?_ | refine WP_drawTail 14 (by kernel_rfl) (by decide +kernel) ?_ | (refine ql_nil ?_; intro w hb; replace S := S.grow hb; clear hb) | (refine g_move ?_; refine st_move rfl ?_) | (refine g_b_lss ?_; refine st_val rfl (r_lss rfl rfl) ?_) | (refine g_c_len ?_; refine st_val rfl (r_lenSlice rfl) ?_) | (refine gq_move ?_; refine q_move rfl ?_) | (refine gq_build ?_; refine q_val rfl (fun w' hb => bd32_0_1 rfl rfl) ?_) | (refine gq_fieldAddr ?_; refine q_val rfl (fun w' hb => r_fieldAddr rfl) ?_) | (refine gq_indexAddr ?_; (refine q_val rfl (fun w' hb => r_indexAddr (hcut.mono (S.grow hb).below) rfl rfl ?_ ?_) ?_; (first | omega | (simp <;> omega)); (first | omega | (simp <;> omega)))) | (refine gq_load ?_; first | (refine q_val rfl (fun w' hb => r_loadElem1 (hcut.mono (S.grow hb).below) rfl ?_ ?_ rfl) ?_; (first | omega | (simp <;> omega)); (first | omega | (simp <;> omega))) | (refine q_val rfl (fun w' hb => r_loadElemF (hcut.mono (S.grow hb).below) rfl ?_ ?_ rfl) ?_; (first | omega | (simp <;> omega)); (first | omega | (simp <;> omega)))) | (refine gq_callV ?_; first | refine q_callV rfl (fun w' hb => r_call2 rfl rfl rfl) (fun w' hb => pick_is hq1 (by omega) (by omega) (by omega)) ?_ | refine q_callV rfl (fun w' hb => r_call2 rfl rfl rfl) (fun w' hb => pick_is hq2 (by omega) (by omega) (by omega)) ?_) | (refine WP_cond rfl (fun h => ?_) (fun h => ?_) <;> (fail_if_success (have hh : true = true := h)) <;> (try simp only [decide_eq_true_eq, decide_eq_false_iff_not, Bool.not_eq_true', Bool.not_eq_false', Int.not_lt, Int.not_le] at h) <;> (try (exfalso; omega))))
    refine st_valE rfl (r_litF (D := fGSpell) [⟨q1, q2⟩] (vA fGSpell) S rfl rfl (fun _ => rfl) rfl (by decide) (by decide)) ?_
    rintro _ w ⟨bl, rfl, -, -, S'⟩; replace S := S'; clear S'
    refine st_valE rfl (r_appendRd (D := fGSpell) (i := 0) S rfl (S.rdRow (D := fGSpell) (i := 1) rfl) rfl rfl rfl (by decide) oneS (by simp; omega) (by simp; omega)) ?_
    rintro vn' w ⟨-, S'⟩; replace S := S'; clear S'
    repeat' (first | refine WP_region ?_ | refine wl_nil ?_ | refine then_normal ?_ | refine inB_normal ?_ | (refine g_move ?_; refine st_move rfl ?_) | (refine g_assign ?_; refine st_assign rfl ?_) | (refine g_b_add ?_; (refine st_val rfl (r_addN rfl rfl ?_ ?_) ?_; (first | omega | (simp <;> omega)); (first | omega | (simp <;> omega)))))
    refine ⟨⟨_, ?_, i + 1, vn', _, ⟨rfl, rfl, rfl, rfl, trivial⟩, S.keep [true, false], by omega, by omega, rfl, by simp; omega⟩⟩
    omega
  · repeat' (first | refine WP_seq ?_ | refine WP_region ?_ | refine wl_nil ?_ | refine then_normal ?_ | refine then_exit ?_ | refine inB_here ?_ | refine WP_ret ?_ | refine WP_exit ?_ | (refine g_move ?_; refine st_move rfl ?_) | (refine g_assign ?_; refine st_assign rfl ?_) | (refine g_pick ?_; refine st_pickT rfl rfl ?_) | (refine g_b_sub ?_; (refine st_val rfl (r_subN rfl rfl ?_ ?_) ?_; (first | omega | (simp <;> omega)); (first | omega | (simp <;> omega)))) | (refine g_b_lss ?_; refine st_val rfl (r_lss rfl rfl) ?_) | (refine g_c_len ?_; refine st_val rfl (r_lenSlice rfl) ?_) | (refine g_callV ?_; first | (refine st_callV rfl (r_call2 rfl rfl rfl) (agrees_spec (hcut.mono S.below) (by omega)) ?_; intro w hb; replace S := S.grow hb; clear hb) | (refine st_callV rfl (r_call2 rfl rfl rfl) (agrees_spec (S.rdRow (D := fGSpell) (i := 0) rfl) (by omega)) ?_; intro w hb; replace S := S.grow hb; clear hb) | (refine st_callV rfl (r_call2 rfl rfl rfl) (pick_is hp (by omega) (by omega) (by omega)) ?_; intro w hb; replace S := S.grow hb; clear hb)) | (refine WP_cond rfl (fun h => ?_) (fun h => ?_) <;> (fail_if_success (have hh : true = true := h)) <;> (try simp only [decide_eq_true_eq, decide_eq_false_iff_not, Bool.not_eq_true', Bool.not_eq_false', Int.not_lt, Int.not_le] at h) <;> (try (exfalso; omega))))
    all_goals exact end1 rfl rfl ⟨rfl, S.below⟩
end Go.Proofs.Ytgphmhpcaeiglaa
