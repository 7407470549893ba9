import Derived.Test.YtcbidfedffegpaaE
import Derived.Test.YtcbidfedffegpaaGxArr
namespace Go.Proofs.Ytcbidfedffegpaa
open Go Go.Gx Go.RowKit
set_option linter.unusedVariables false
set_option linter.unusedSimpArgs false
instance : Inhabited Value := ⟨.bool false⟩
theorem grow_run {m : Nat} {w0 : World} (hm : m ≤ 100000) :
    CallsR Try.prog 42 #[.slice none 0 0, .int .i64 m] w0 (fun v w' => NewRow fGClaim 39 w0 w' v []) := by
  have S := St.start w0
  have hnil := Rd.nil fGClaim.ty w0
  refine CallsR.mk ?_
  refine calls_enter Try.func42 rfl (by intro _ h; first | exact nomatch h.1 | (obtain ⟨_, h, _⟩ := h; exact nomatch h)) Try.ntmps42 rfl ?_
  repeat' (first | refine WP_seq ?_ | refine WP_region ?_ | refine wl_nil ?_ | refine then_normal ?_ | refine WP_ret ?_ | refine WP_skip ?_ | refine WP_condF rfl ?_ | (refine g_move ?_; refine st_move rfl ?_) | (refine g_assign ?_; refine st_assign rfl ?_) | (refine g_b_sub ?_; (refine st_val rfl (r_subN rfl rfl ?_ ?_) ?_; (first | omega | (simp <;> omega)); (first | omega | (simp <;> omega)))) | (refine g_b_lss ?_; refine st_val rfl (r_lss rfl rfl) ?_) | (refine g_b_gtr ?_; refine st_val rfl (r_gtr rfl rfl) ?_) | (refine g_c_len ?_; refine st_val rfl (r_lenSlice rfl) ?_) | (refine st_val rfl (r_capSlice rfl) ?_) | (refine st_val rfl (r_sliceHi (hnil.mono S.below) rfl rfl (by omega) (by simp)) ?_) | (refine WP_cond rfl (fun h => ?_) (fun h => ?_) <;> (fail_if_success (have hh : true = true := h)) <;> (fail_if_success (have hh : false = false := h)) <;> (try simp only [decide_eq_true_eq, decide_eq_false_iff_not, Bool.not_eq_true', Bool.not_eq_false', Int.not_lt, Int.not_le] at h) <;> (try (exfalso; omega))))
  · refine st_valE rfl (r_appendZ (D := fGClaim) (m := m) ⟨0, 0, 0, 0⟩ S rfl (by show Value.int .i64 ((m : Int) - (0 - 0)) = .int .i64 m; congr 1 <;> omega) rfl (by decide) (by omega) (by unfold maxLen; omega) (by omega)) ?_
    rintro _ w ⟨b, cap, rfl, hb, S'⟩
    replace S := S'
    have hrd := S.rdRow (D := fGClaim) (i := 0) rfl
    have hl : (List.replicate m (⟨0, 0, 0, 0⟩ : GClaim)).length = m := List.length_replicate
    have hrow := row_none (D := fGClaim) (T := 39) (b := b) (cap := cap) (B := w0.heap.size) (w := w) (l := List.replicate m (⟨0, 0, 0, 0⟩ : GClaim)) (by rw [hl]; exact S.ok _ (List.mem_singleton.2 rfl))
    repeat' (first | refine WP_seq ?_ | refine WP_region ?_ | refine wl_nil ?_ | refine then_normal ?_ | refine WP_ret ?_ | (refine g_move ?_; refine st_move rfl ?_) | (refine g_assign ?_; refine st_assign rfl ?_) | (refine g_c_len ?_; refine st_val rfl (r_lenSlice rfl) ?_) | (refine st_val rfl (r_sliceHi hrd rfl rfl (by omega) (by simp)) ?_))
    have e : sliceV (.slice (some ⟨b, 0, none⟩) m cap) 0 0 fGClaim.ty.sz = .slice (some ⟨b, 0, none⟩) 0 cap := by
      unfold sliceV; simp [add_zero]
    refine end1 rfl rfl ⟨_, rfl, S.below, ?_⟩
    show NewRow fGClaim 39 w0 w (sliceV (.slice (some ⟨b, 0, none⟩) m cap) 0 0 fGClaim.ty.sz) []
    rw [e]; exact hrow
  · exact end1 rfl rfl ⟨_, rfl, S.below, NewRow.nil fGClaim 39 _ _⟩
theorem flat_take {α : Type} {g : List (List α)} {i : Nat} (h : i < g.length) : (g.take (i + 1)).flatten = (g.take i).flatten ++ g.getD i [] := by
  rw [List.take_add_one, List.flatten_append, List.getD_eq_getElem?_getD, List.getElem?_eq_getElem h]; simp
theorem flat_take_le {α : Type} (g : List (List α)) (i : Nat) : (g.take i).flatten.length ≤ g.flatten.length := by
  have : g.flatten = (g.take i).flatten ++ (g.drop i).flatten := by rw [← List.flatten_append, List.take_append_drop]
  rw [this, List.length_append]; omega
theorem concat_run {v : Value} {vs : List Value} {g : List (List GClaim)} {w0 : World} (hr : Rd fVal.ty w0 v vs) (hlen : vs.length = g.length) (hg : ∀ k, k < g.length → Rd fGClaim.ty w0 (nth vs (k : Int)) (g.getD k [])) (hb : g.flatten.length ≤ 100000) (h8 : g.length ≤ 100) :
    CallsR Try.prog 33 #[v] w0 (fun v w' => NewRow fGClaim 39 w0 w' v g.flatten) := by
  have S := St.start w0
  obtain ⟨A, c, rfl⟩ := hr.len
  refine CallsR.mk ?_
  refine calls_enter Try.func33 rfl (by intro _ h; first | exact nomatch h.1 | (obtain ⟨_, h, _⟩ := h; exact nomatch h)) Try.ntmps33 rfl ?_
  repeat' (first | refine WP_seq ?_ | refine WP_region ?_ | refine wl_nil ?_ | refine then_normal ?_ | refine WP_block ?_ | (refine g_move ?_; refine st_move rfl ?_) | (refine g_assign ?_; refine st_assign rfl ?_) | (refine g_c_len ?_; refine st_val rfl (r_lenSlice rfl) ?_))
  refine WP_loop (fun k σ w1 => ∃ i : Nat, Has σ [(0, .slice A vs.length c), (3, .int .i64 ((g.take i).flatten.length : Nat)), (9, .slice A vs.length c), (10, .int .i64 vs.length), (11, .int .i64 (i : Int))] ∧ St w0 w1 [] ∧ i ≤ g.length ∧ k = g.length - i) g.length ⟨0, ⟨rfl, rfl, rfl, rfl, rfl, trivial⟩, S, by omega, by omega⟩ ?_
  clear S
  rintro k σ w1 ⟨i, hs', S, hi1, rfl⟩
  refine WP_has hs' ?_
  have hle := flat_take_le g i
  have hle2 := flat_take_le g (i + 1)
  by_cases hi : i < g.length
  · obtain ⟨A2, c2, hv⟩ := (hg i hi).len
    have hft := congrArg List.length (flat_take hi)
    rw [List.length_append] at hft
    repeat' (first | refine WP_seq ?_ | refine WP_region ?_ | refine wl_nil ?_ | refine then_normal ?_ | refine inB_normal ?_ | refine WP_skip ?_ | refine WP_block ?_ | refine WP_condF rfl ?_ | (refine g_move ?_; refine st_move rfl ?_) | (refine g_assign ?_; refine st_assign rfl ?_) | (refine g_b_add ?_; (refine st_val rfl (r_addN rfl rfl ?_ ?_) ?_; (first | omega | (simp <;> omega)); (first | omega | (simp <;> omega)))) | (refine g_b_lss ?_; refine st_val rfl (r_lss rfl rfl) ?_) | (refine g_c_len ?_; refine st_val rfl (r_lenSlice hv) ?_) | (refine g_indexAddr ?_; (refine st_val rfl (r_indexAddr (hr.mono S.below) rfl rfl ?_ ?_) ?_; (first | omega | (simp <;> omega)); (first | omega | (simp <;> omega)))) | (refine g_load ?_; (refine st_val rfl (r_loadElem1 (hr.mono S.below) rfl ?_ ?_ rfl) ?_; (first | omega | (simp <;> omega)); (first | omega | (simp <;> omega)))) | (refine WP_cond rfl (fun h => ?_) (fun h => ?_) <;> (fail_if_success (have hh : true = true := h)) <;> (fail_if_success (have hh : false = false := h)) <;> (try simp only [decide_eq_true_eq, decide_eq_false_iff_not, Bool.not_eq_true', Bool.not_eq_false', Int.not_lt, Int.not_le] at h) <;> (try (exfalso; omega))))
    refine ⟨⟨_, ?_, i + 1, ⟨rfl, ?_, rfl, rfl, rfl, trivial⟩, S, by omega, rfl⟩⟩
    · omega
    · rw [hft]; show Value.int .i64 _ = _; congr 1
  · have e : i = g.length := by omega
    subst e
    rw [List.take_length]
    repeat' (first | refine WP_seq ?_ | refine WP_region ?_ | refine wl_nil ?_ | refine then_normal ?_ | refine then_exit ?_ | refine inB_here ?_ | refine WP_exit ?_ | refine WP_block ?_ | (refine g_move ?_; refine st_move rfl ?_) | (refine g_assign ?_; refine st_assign rfl ?_) | (refine g_b_lss ?_; refine st_val rfl (r_lss rfl rfl) ?_) | (refine g_c_len ?_; refine st_val rfl (r_lenSlice rfl) ?_) | (refine st_callR rfl (r_call2 rfl rfl rfl) (grow_run hb) ?_; rintro v w hb hrow; replace S := S.new hb hrow; clear hb hrow) | (refine WP_cond rfl (fun h => ?_) (fun h => ?_) <;> (fail_if_success (have hh : true = true := h)) <;> (fail_if_success (have hh : false = false := h)) <;> (try simp only [decide_eq_true_eq, decide_eq_false_iff_not, Bool.not_eq_true', Bool.not_eq_false', Int.not_lt, Int.not_le] at h) <;> (try (exfalso; omega))))
    replace S : St w0 _ [rowOb fGClaim 39 v (g.take 0).flatten] := S
    refine WP_loop (fun k σ w1 => ∃ (i : Nat) (v : Value), Has σ [(6, v), (25, .slice A vs.length c), (26, .int .i64 vs.length), (27, .int .i64 (i : Int))] ∧ St w0 w1 [rowOb fGClaim 39 v (g.take i).flatten] ∧ i ≤ g.length ∧ k = g.length - i) g.length ⟨0, v, ⟨rfl, rfl, rfl, rfl, trivial⟩, S, by omega, by omega⟩ ?_
    clear S
    rintro k σ w2 ⟨i, v, hs2, S, hi1, rfl⟩
    refine WP_has hs2 ?_
    have hle := flat_take_le g i
    have hle2 := flat_take_le g (i + 1)
    by_cases hi : i < g.length
    · obtain ⟨A2, c2, hv⟩ := (hg i hi).len
      have hft := flat_take hi
      have hft2 := congrArg List.length hft
      rw [List.length_append] at hft2
      repeat' (first | refine WP_seq ?_ | refine WP_region ?_ | refine wl_nil ?_ | refine then_normal ?_ | refine WP_skip ?_ | refine WP_block ?_ | (refine g_move ?_; refine st_move rfl ?_) | (refine g_assign ?_; refine st_assign rfl ?_) | (refine g_b_lss ?_; refine st_val rfl (r_lss rfl rfl) ?_) | (refine g_indexAddr ?_; (refine st_val rfl (r_indexAddr (hr.mono S.below) rfl rfl ?_ ?_) ?_; (first | omega | (simp <;> omega)); (first | omega | (simp <;> omega)))) | (refine g_load ?_; (refine st_val rfl (r_loadElem1 (hr.mono S.below) rfl ?_ ?_ rfl) ?_; (first | omega | (simp <;> omega)); (first | omega | (simp <;> omega)))) | (refine WP_cond rfl (fun h => ?_) (fun h => ?_) <;> (fail_if_success (have hh : true = true := h)) <;> (fail_if_success (have hh : false = false := h)) <;> (try simp only [decide_eq_true_eq, decide_eq_false_iff_not, Bool.not_eq_true', Bool.not_eq_false', Int.not_lt, Int.not_le] at h) <;> (try (exfalso; omega))))
      refine st_valE rfl (r_appendRd (i := 0) (D := fGClaim) S rfl ((hg i hi).mono S.below) rfl rfl rfl (by decide) (by intro x u hu; simp [fGClaim, GClaim.enc] at hu; rcases hu with rfl | rfl | rfl | rfl <;> rfl) (by omega) (by omega)) ?_
      rintro v' w ⟨_, S'⟩
      replace S : St w0 w [rowOb fGClaim 39 v' (g.take (i + 1)).flatten] := by rw [hft]; exact S'
      repeat' (first | refine WP_region ?_ | refine wl_nil ?_ | refine then_normal ?_ | refine inB_normal ?_ | (refine g_move ?_; refine st_move rfl ?_) | (refine g_assign ?_; refine st_assign rfl ?_) | (refine g_b_add ?_; (refine st_val rfl (r_addN rfl rfl ?_ ?_) ?_; (first | omega | (simp <;> omega)); (first | omega | (simp <;> omega)))))
      refine ⟨⟨_, ?_, i + 1, v', ⟨rfl, rfl, rfl, rfl, trivial⟩, S, by omega, rfl⟩⟩
      omega
    · have e : i = g.length := by omega
      subst e
      rw [List.take_length] at S
      repeat' (first | refine WP_seq ?_ | refine WP_region ?_ | refine wl_nil ?_ | refine then_normal ?_ | refine then_exit ?_ | refine inB_here ?_ | refine WP_ret ?_ | refine WP_exit ?_ | (refine g_move ?_; refine st_move rfl ?_) | (refine g_assign ?_; refine st_assign rfl ?_) | (refine g_b_lss ?_; refine st_val rfl (r_lss rfl rfl) ?_) | (refine WP_cond rfl (fun h => ?_) (fun h => ?_) <;> (fail_if_success (have hh : true = true := h)) <;> (fail_if_success (have hh : false = false := h)) <;> (try simp only [decide_eq_true_eq, decide_eq_false_iff_not, Bool.not_eq_true', Bool.not_eq_false', Int.not_lt, Int.not_le] at h) <;> (try (exfalso; omega))))
      exact end1 rfl rfl ⟨_, rfl, S.below, S.row (i := 0) rfl⟩
end Go.Proofs.Ytcbidfedffegpaa
