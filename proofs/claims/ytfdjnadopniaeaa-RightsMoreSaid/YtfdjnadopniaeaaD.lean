import Derived.Test.YtfdjnadopniaeaaC
namespace Go.Proofs.Ytfdjnadopniaeaa
open Go Go.Gx Go.RowKit
set_option linter.unusedVariables false
set_option linter.unusedSimpArgs false

abbrev GI := Int
abbrev fGI : Flat GI := fInt .i64
theorem ext_nth {α : Type} [Inhabited α] {l m : List α} (hl : l.length = m.length) (h : ∀ j : Int, 0 ≤ j → j < l.length → nth l j = nth m j) : l = m := by
  apply List.ext_getElem? 
  intro j
  by_cases hj : j < l.length
  · have h1 := nth_get (l := l) (i := j) (by omega) (by omega)
    have h2 := nth_get (l := m) (i := j) (by omega) (by omega)
    simp only [Int.toNat_natCast] at h1 h2
    rw [h1, h2, h j (by omega) (by omega)]
  · rw [List.getElem?_eq_none (by omega), List.getElem?_eq_none (by omega)]
theorem sameG_spec {v v2 : Value} {l m : List GGrant} {w : World} (hr : Rd fGGrant.ty w v l) (hr2 : Rd fGGrant.ty w v2 m) (hl : l.length ≤ 1000000000) (hm : m.length ≤ 1000000000) :
    CallsV Try.prog 17 #[v, v2] w (.bool (decide (l = m))) := by
  have S := St.start w
  obtain ⟨A, c, rfl⟩ := hr.len
  obtain ⟨A2, c2, rfl⟩ := hr2.len
  refine CallsV.mk ?_
  refine calls_enter Try.func17 rfl (by intro _ h; first | exact nomatch h.1 | (obtain ⟨_, h, _⟩ := h; exact nomatch h)) Try.ntmps17 rfl ?_
  repeat' (first | refine WP_seq ?_ | refine WP_region ?_ | refine wl_nil ?_ | refine then_normal ?_ | refine then_ret ?_ | refine WP_ret ?_ | refine WP_skip ?_ | refine WP_block ?_ | (refine g_move ?_; refine st_move rfl ?_) | (refine g_assign ?_; refine st_assign rfl ?_) | (refine g_b_neq ?_; refine st_val rfl (r_neq rfl rfl) ?_) | (refine g_c_len ?_; refine st_val rfl (r_lenSlice rfl) ?_) | (refine WP_cond rfl (fun h => ?_) (fun h => ?_) <;> (fail_if_success (have hh : true = true := h)) <;> (fail_if_success (have hh : false = false := h)) <;> (try simp only [decide_eq_true_eq, decide_eq_false_iff_not, Bool.not_eq_true', Bool.not_eq_false', Int.not_lt, Int.not_le] at h) <;> (try (exfalso; omega))))
  · exact end1 rfl rfl ⟨rb (by rw [decide_eq_false]; rintro rfl; omega), S.below⟩
  refine WP_loop (fun k σ w1 => ∃ i : Int, Has σ [(0, .slice A l.length c), (1, .slice A2 m.length c2), (5, .int .i64 i)] ∧ St w w1 [] ∧ 0 ≤ i ∧ i ≤ l.length ∧ k = l.length - i.toNat ∧ ∀ j : Int, 0 ≤ j → j < i → nth l j = nth m j) l.length ⟨0, ⟨rfl, rfl, rfl, trivial⟩, S, by omega, by omega, by omega, fun j h0 h1 => by omega⟩ ?_
  rintro k σ w1 ⟨i, hs, S, hi0, hi1, rfl, hall⟩
  refine WP_has hs ?_
  repeat' (first | refine WP_seq ?_ | refine WP_region ?_ | refine wl_nil ?_ | refine then_normal ?_ | refine inB_normal ?_ | refine then_exit ?_ | refine inB_here ?_ | refine then_ret ?_ | refine inB_ret ?_ | refine WP_ret ?_ | refine WP_skip ?_ | refine WP_exit ?_ | refine WP_block ?_ | refine WP_draw (by kernel_rfl) (by kernel_rfl) ?_ | (refine ql_nil ?_; intro w hb; replace S := S.grow hb; clear hb) | (refine g_move ?_; refine st_move rfl ?_) | (refine g_assign ?_; refine st_assign rfl ?_) | (refine g_b_add ?_; (refine st_val rfl (r_addN rfl rfl ?_ ?_) ?_; (first | omega | (simp <;> omega)); (first | omega | (simp <;> omega)))) | (refine g_b_lss ?_; refine st_val rfl (r_lss rfl rfl) ?_) | (refine g_c_len ?_; refine st_val rfl (r_lenSlice rfl) ?_) | (refine gq_move ?_; refine q_move rfl ?_) | (refine gq_b_neq ?_; refine q_val rfl (fun w' hb => neq52 rfl rfl) ?_) | (refine gq_indexAddr ?_; first | (refine q_val rfl (fun w' hb => r_indexAddr (hr.mono (S.grow hb).below) rfl rfl ?_ ?_) ?_; (first | omega | (simp <;> omega)); (first | omega | (simp <;> omega))) | (refine q_val rfl (fun w' hb => r_indexAddr (hr2.mono (S.grow hb).below) rfl rfl ?_ ?_) ?_; (first | omega | (simp <;> omega)); (first | omega | (simp <;> omega)))) | (refine gq_load ?_; first | (refine q_val rfl (fun w' hb => r_loadElem (hr.mono (S.grow hb).below) rfl ?_ ?_) ?_; (first | omega | (simp <;> omega)); (first | omega | (simp <;> omega))) | (refine q_val rfl (fun w' hb => r_loadElem (hr2.mono (S.grow hb).below) rfl ?_ ?_) ?_; (first | omega | (simp <;> omega)); (first | omega | (simp <;> omega)))) | (refine WP_cond rfl (fun h => ?_) (fun h => ?_) <;> (fail_if_success (have hh : true = true := h)) <;> (fail_if_success (have hh : false = false := h)) <;> (try simp only [decide_eq_true_eq, decide_eq_false_iff_not, Bool.not_eq_true', Bool.not_eq_false', Int.not_lt, Int.not_le] at h) <;> (try (exfalso; omega))))
  · refine end1 rfl rfl ⟨rb ?_, S.below⟩
    symm; rw [decide_eq_false_iff_not]; rintro rfl
    simp at h
  · refine ⟨⟨_, ?_, i + 1, ⟨rfl, rfl, rfl, trivial⟩, S, by omega, by omega, rfl, fun j h0 h1 => ?_⟩⟩
    · omega
    · by_cases e : j = i
      · subst e; first | exact h | exact of_decide_eq_true h
      · exact hall j h0 (by omega)
  · refine end1 rfl rfl ⟨rb ?_, S.below⟩
    symm; rw [decide_eq_true_iff]
    exact ext_nth (by omega) fun j h0 h1 => hall j h0 (by omega)

theorem ints_spec {v v2 : Value} {l m : List GI} {w : World} (hr : Rd fGI.ty w v l) (hr2 : Rd fGI.ty w v2 m) (hl : l.length ≤ 1000000000) (hm : m.length ≤ 1000000000) :
    CallsV Try.prog 25 #[v, v2] w (.bool (decide (l = m))) := by
  have S := St.start w
  obtain ⟨A, c, rfl⟩ := hr.len
  obtain ⟨A2, c2, rfl⟩ := hr2.len
  refine CallsV.mk ?_
  refine calls_enter Try.func25 rfl (by intro _ h; first | exact nomatch h.1 | (obtain ⟨_, h, _⟩ := h; exact nomatch h)) Try.ntmps25 rfl ?_
  repeat' (first | refine WP_seq ?_ | refine WP_region ?_ | refine wl_nil ?_ | refine then_normal ?_ | refine then_ret ?_ | refine WP_ret ?_ | refine WP_skip ?_ | refine WP_block ?_ | (refine g_move ?_; refine st_move rfl ?_) | (refine g_assign ?_; refine st_assign rfl ?_) | (refine g_b_neq ?_; refine st_val rfl (r_neq rfl rfl) ?_) | (refine g_c_len ?_; refine st_val rfl (r_lenSlice rfl) ?_) | (refine WP_cond rfl (fun h => ?_) (fun h => ?_) <;> (fail_if_success (have hh : true = true := h)) <;> (fail_if_success (have hh : false = false := h)) <;> (try simp only [decide_eq_true_eq, decide_eq_false_iff_not, Bool.not_eq_true', Bool.not_eq_false', Int.not_lt, Int.not_le] at h) <;> (try (exfalso; omega))))
  · exact end1 rfl rfl ⟨rb (by rw [decide_eq_false]; rintro rfl; omega), S.below⟩
  refine WP_loop (fun k σ w1 => ∃ i : Int, Has σ [(0, .slice A l.length c), (1, .slice A2 m.length c2), (5, .int .i64 i)] ∧ St w w1 [] ∧ 0 ≤ i ∧ i ≤ l.length ∧ k = l.length - i.toNat ∧ ∀ j : Int, 0 ≤ j → j < i → nth l j = nth m j) l.length ⟨0, ⟨rfl, rfl, rfl, trivial⟩, S, by omega, by omega, by omega, fun j h0 h1 => by omega⟩ ?_
  clear S
  rintro k σ w1 ⟨i, hs, S, hi0, hi1, rfl, hall⟩
  refine WP_has hs ?_
  repeat' (first | refine WP_seq ?_ | refine WP_region ?_ | refine wl_nil ?_ | refine then_normal ?_ | refine inB_normal ?_ | refine then_exit ?_ | refine inB_here ?_ | refine then_ret ?_ | refine inB_ret ?_ | refine WP_ret ?_ | refine WP_skip ?_ | refine WP_exit ?_ | refine WP_block ?_ | refine WP_draw (by kernel_rfl) (by kernel_rfl) ?_ | (refine ql_nil ?_; intro w hb; replace S := S.grow hb; clear hb) | (refine g_move ?_; refine st_move rfl ?_) | (refine g_assign ?_; refine st_assign rfl ?_) | (refine g_b_add ?_; (refine st_val rfl (r_addN rfl rfl ?_ ?_) ?_; (first | omega | (simp <;> omega)); (first | omega | (simp <;> omega)))) | (refine g_b_lss ?_; refine st_val rfl (r_lss rfl rfl) ?_) | (refine g_c_len ?_; refine st_val rfl (r_lenSlice rfl) ?_) | (refine gq_move ?_; refine q_move rfl ?_) | (refine gq_b_neq ?_; refine q_val rfl (fun w' hb => r_neq rfl rfl) ?_) | (refine gq_indexAddr ?_; first | (refine q_val rfl (fun w' hb => r_indexAddr (hr.mono (S.grow hb).below) rfl rfl ?_ ?_) ?_; (first | omega | (simp <;> omega)); (first | omega | (simp <;> omega))) | (refine q_val rfl (fun w' hb => r_indexAddr (hr2.mono (S.grow hb).below) rfl rfl ?_ ?_) ?_; (first | omega | (simp <;> omega)); (first | omega | (simp <;> omega)))) | (refine gq_load ?_; first | (refine q_val rfl (fun w' hb => r_loadElem1 (hr.mono (S.grow hb).below) rfl ?_ ?_ rfl) ?_; (first | omega | (simp <;> omega)); (first | omega | (simp <;> omega))) | (refine q_val rfl (fun w' hb => r_loadElem1 (hr2.mono (S.grow hb).below) rfl ?_ ?_ rfl) ?_; (first | omega | (simp <;> omega)); (first | omega | (simp <;> omega)))) | (refine WP_cond rfl (fun h => ?_) (fun h => ?_) <;> (fail_if_success (have hh : true = true := h)) <;> (fail_if_success (have hh : false = false := h)) <;> (try simp only [decide_eq_true_eq, decide_eq_false_iff_not, Bool.not_eq_true', Bool.not_eq_false', Int.not_lt, Int.not_le] at h) <;> (try (exfalso; omega))))
  · refine end1 rfl rfl ⟨rb ?_, S.below⟩
    symm; rw [decide_eq_false_iff_not]; rintro rfl
    simp at h
  · refine ⟨⟨_, ?_, i + 1, ⟨rfl, rfl, rfl, trivial⟩, S, by omega, by omega, rfl, fun j h0 h1 => ?_⟩⟩
    · omega
    · by_cases e : j = i
      · subst e; first | exact h | exact of_decide_eq_true h | omega
      · exact hall j h0 (by omega)
  · refine end1 rfl rfl ⟨rb ?_, S.below⟩
    symm; rw [decide_eq_true_iff]
    exact ext_nth (by omega) fun j h0 h1 => hall j h0 (by omega)
theorem has_spec {v : Value} {l : List GI} {n : Int} {w : World} (hr : Rd fGI.ty w v l) (hl : l.length ≤ 1000000000) :
    CallsV Try.prog 30 #[v, .int .i64 n] w (.bool (decide (n ∈ l))) := by
  have S := St.start w
  obtain ⟨A, c, rfl⟩ := hr.len
  refine CallsV.mk ?_
  refine calls_enter Try.func30 rfl (by intro _ h; first | exact nomatch h.1 | (obtain ⟨_, h, _⟩ := h; exact nomatch h)) Try.ntmps30 rfl ?_
  repeat' (first | refine WP_seq ?_ | refine WP_region ?_ | refine wl_nil ?_ | refine then_normal ?_ | refine WP_block ?_ | (refine g_assign ?_; refine st_assign rfl ?_))
  refine WP_loop (fun k σ w1 => ∃ i : Int, Has σ [(0, .slice A l.length c), (1, .int .i64 n), (5, .int .i64 i)] ∧ St w w1 [] ∧ 0 ≤ i ∧ i ≤ l.length ∧ k = l.length - i.toNat ∧ ∀ j : Int, 0 ≤ j → j < i → nth l j ≠ n) l.length ⟨0, ⟨rfl, rfl, rfl, trivial⟩, S, by omega, by omega, by omega, fun j h0 h1 => by omega⟩ ?_
  clear S
  rintro k σ w1 ⟨i, hs, S, hi0, hi1, rfl, hall⟩
  refine WP_has hs ?_
  by_cases hi : i < l.length
  · repeat' (first | refine WP_seq ?_ | refine WP_region ?_ | refine wl_nil ?_ | refine then_normal ?_ | refine inB_normal ?_ | refine then_ret ?_ | refine inB_ret ?_ | refine WP_ret ?_ | refine WP_skip ?_ | refine WP_block ?_ | (refine g_move ?_; refine st_move rfl ?_) | (refine g_assign ?_; refine st_assign rfl ?_) | (refine g_b_add ?_; (refine st_val rfl (r_addN rfl rfl ?_ ?_) ?_; (first | omega | (simp <;> omega)); (first | omega | (simp <;> omega)))) | (refine g_b_eql ?_; refine st_val rfl (r_eql rfl rfl) ?_) | (refine g_b_lss ?_; refine st_val rfl (r_lss rfl rfl) ?_) | (refine g_c_len ?_; refine st_val rfl (r_lenSlice rfl) ?_) | (refine g_indexAddr ?_; (refine st_val rfl (r_indexAddr (hr.mono S.below) rfl rfl ?_ ?_) ?_; (first | omega | (simp <;> omega)); (first | omega | (simp <;> omega)))) | (refine g_load ?_; (refine st_val rfl (r_loadElem1 (hr.mono S.below) rfl ?_ ?_ rfl) ?_; (first | omega | (simp <;> omega)); (first | omega | (simp <;> omega)))) | (refine WP_cond rfl (fun h => ?_) (fun h => ?_) <;> (fail_if_success (have hh : true = true := h)) <;> (fail_if_success (have hh : false = false := h)) <;> (try simp only [decide_eq_true_eq, decide_eq_false_iff_not, Bool.not_eq_true', Bool.not_eq_false', Int.not_lt, Int.not_le] at h) <;> (try (exfalso; omega))))
    · refine end1 rfl rfl ⟨rb ?_, S.below⟩
      symm; rw [decide_eq_true_iff]
      have := nth_mem hi0 hi
      first | (rw [h] at this; exact this) | (simp_all)
    · refine ⟨⟨_, ?_, i + 1, ⟨rfl, rfl, rfl, trivial⟩, S, by omega, by omega, rfl, fun j h0 h1 => ?_⟩⟩
      · omega
      · by_cases e : j = i
        · subst e; first | exact h | exact of_decide_eq_false h | simp_all
        · exact hall j h0 (by omega)
  · repeat' (first | refine WP_seq ?_ | refine WP_region ?_ | refine wl_nil ?_ | refine then_normal ?_ | refine then_exit ?_ | refine inB_here ?_ | refine WP_ret ?_ | refine WP_exit ?_ | (refine g_move ?_; refine st_move rfl ?_) | (refine g_assign ?_; refine st_assign rfl ?_) | (refine g_b_lss ?_; refine st_val rfl (r_lss rfl rfl) ?_) | (refine g_c_len ?_; refine st_val rfl (r_lenSlice rfl) ?_) | (refine WP_cond rfl (fun h => ?_) (fun h => ?_) <;> (fail_if_success (have hh : true = true := h)) <;> (fail_if_success (have hh : false = false := h)) <;> (try simp only [decide_eq_true_eq, decide_eq_false_iff_not, Bool.not_eq_true', Bool.not_eq_false', Int.not_lt, Int.not_le] at h) <;> (try (exfalso; omega))))
    refine end1 rfl rfl ⟨rb ?_, S.below⟩
    symm; rw [decide_eq_false_iff_not]; intro hm
    obtain ⟨j, hj⟩ := List.getElem?_of_mem hm
    have hlt := (List.getElem?_eq_some_iff.1 hj).1
    have e := nth_get (l := l) (i := j) (by omega) (by omega)
    rw [Int.toNat_natCast, hj] at e
    cases e
    exact hall j (by omega) (by omega) rfl
def playsL (l : List GGrant) : List Int := l.map fun g => g.Plays
theorem oneI : ∀ (x : Int), ∀ u ∈ (fInt .i64).enc x, u.oneCell' = true := fun x u hu => by simp [fInt] at hu; subst hu; rfl
theorem take_nth {α : Type} [Inhabited α] {l : List α} {i : Int} (h0 : 0 ≤ i) (h1 : i < l.length) : l.take (i + 1).toNat = l.take i.toNat ++ [nth l i] := by
  have e := nth_get h0 h1
  rw [show (i + 1).toNat = i.toNat + 1 by omega, List.take_add_one, e]; rfl
theorem plays_spec {v : Value} {l : List GGrant} {w0 : World} (hr : Rd fGGrant.ty w0 v l) (hl : l.length ≤ 1000) :
    CallsR Try.prog 41 #[v] w0 fun v' w' => NewRow (fInt .i64) 3 w0 w' v' (playsL l) := by
  have S := St.start w0
  obtain ⟨A, c, rfl⟩ := hr.len
  refine CallsR.mk ?_
  refine calls_enter Try.func41 rfl (by intro _ h; first | exact nomatch h.1 | (obtain ⟨_, h, _⟩ := h; exact nomatch h)) Try.ntmps41 rfl ?_
  repeat' (first | refine WP_seq ?_ | refine WP_region ?_ | refine wl_nil ?_ | refine then_normal ?_ | refine WP_block ?_ | (refine g_assign ?_; refine st_assign rfl ?_))
  refine WP_loop (fun k σ w1 => ∃ (i : Int) (va : Value), Has σ [(0, .slice A l.length c), (3, va), (4, .int .i64 i)] ∧ St w0 w1 [rowOb (fInt .i64) 3 va (playsL (l.take i.toNat))] ∧ 0 ≤ i ∧ i ≤ l.length ∧ k = l.length - i.toNat) l.length ⟨0, _, ⟨rfl, rfl, rfl, trivial⟩, S.nilRow (fInt .i64) 3, by omega, by omega, by omega⟩ ?_
  clear S
  rintro k σ w1 ⟨i, va, hs, S, hi0, hi1, rfl⟩
  refine WP_has hs ?_
  by_cases hi : i < l.length
  · have hll : (playsL (l.take i.toNat)).length ≤ 1000 := by simp [playsL]; omega
    repeat' (first | refine WP_seq ?_ | refine WP_region ?_ | refine wl_nil ?_ | refine then_normal ?_ | refine WP_skip ?_ | refine WP_block ?_ | (refine g_move ?_; refine st_move rfl ?_) | (refine g_b_lss ?_; refine st_val rfl (r_lss rfl rfl) ?_) | (refine g_c_len ?_; refine st_val rfl (r_lenSlice rfl) ?_) | (refine g_fieldAddr ?_; refine st_val rfl (r_fieldAddr rfl) ?_) | (refine g_indexAddr ?_; (refine st_val rfl (r_indexAddr (hr.mono S.below) rfl rfl ?_ ?_) ?_; (first | omega | (simp <;> omega)); (first | omega | (simp <;> omega)))) | (refine g_load ?_; (refine st_val rfl (r_loadElemF (hr.mono S.below) rfl ?_ ?_ rfl) ?_; (first | omega | (simp <;> omega)); (first | omega | (simp <;> omega)))) | (refine WP_cond rfl (fun h => ?_) (fun h => ?_) <;> (fail_if_success (have hh : true = true := h)) <;> (fail_if_success (have hh : false = false := h)) <;> (try simp only [decide_eq_true_eq, decide_eq_false_iff_not, Bool.not_eq_true', Bool.not_eq_false', Int.not_lt, Int.not_le] at h) <;> (try (exfalso; omega))))
    refine st_valE rfl (r_litF (D := fInt .i64) [(nth l i).Plays] (Value.int .i64) S rfl rfl (fun _ => rfl) rfl (by decide) (by decide)) ?_
    rintro _ w ⟨bl, rfl, -, -, S'⟩; replace S := S'; clear S'
    refine st_valE rfl (r_appendRd (D := fInt .i64) (i := 0) S rfl (S.rdRow (D := fInt .i64) (i := 1) rfl) rfl rfl rfl (by decide) oneI (by simp; omega) (by simp; omega)) ?_
    rintro va' w ⟨-, S'⟩; replace S := S'; clear S'
    repeat' (first | refine WP_region ?_ | refine wl_nil ?_ | refine then_normal ?_ | refine inB_normal ?_ | (refine g_move ?_; refine st_move rfl ?_) | (refine g_assign ?_; refine st_assign rfl ?_) | (refine g_b_add ?_; (refine st_val rfl (r_addN rfl rfl ?_ ?_) ?_; (first | omega | (simp <;> omega)); (first | omega | (simp <;> omega)))))
    have e : playsL (l.take i.toNat) ++ [(nth l i).Plays] = playsL (l.take (i + 1).toNat) := by rw [take_nth hi0 hi]; simp [playsL]
    refine ⟨⟨_, ?_, i + 1, va', ⟨rfl, rfl, rfl, trivial⟩, e ▸ S.keep [true, false], by omega, by omega, rfl⟩⟩
    omega
  · have e : i.toNat = l.length := by omega
    rw [e, List.take_length] at S
    repeat' (first | refine WP_seq ?_ | refine WP_region ?_ | refine wl_nil ?_ | refine then_normal ?_ | refine then_exit ?_ | refine inB_here ?_ | refine WP_ret ?_ | refine WP_exit ?_ | (refine g_move ?_; refine st_move rfl ?_) | (refine g_assign ?_; refine st_assign rfl ?_) | (refine g_b_lss ?_; refine st_val rfl (r_lss rfl rfl) ?_) | (refine g_c_len ?_; refine st_val rfl (r_lenSlice rfl) ?_) | (refine WP_cond rfl (fun h => ?_) (fun h => ?_) <;> (fail_if_success (have hh : true = true := h)) <;> (fail_if_success (have hh : false = false := h)) <;> (try simp only [decide_eq_true_eq, decide_eq_false_iff_not, Bool.not_eq_true', Bool.not_eq_false', Int.not_lt, Int.not_le] at h) <;> (try (exfalso; omega))))
    exact end1 rfl rfl ⟨va, rfl, S.below, S.row (i := 0) rfl⟩
end Go.Proofs.Ytfdjnadopniaeaa
