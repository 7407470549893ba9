import Derived.Test.YtcbidfedffegpaaN
namespace Go.Proofs.Ytcbidfedffegpaa
open Go Go.Gx Go.RowKit
set_option linter.unusedVariables false
set_option linter.unusedSimpArgs false
theorem ext_nth {α : Type} [Inhabited α] {l m : List α} (hl : l.length = m.length) (h : ∀ j : Int, 0 ≤ j → j < l.length → nth l j = nth m j) : l = m := by
  apply List.ext_getElem? 
  intro j
  by_cases hj : j < l.length
  · have h1 := nth_get (l := l) (i := j) (by omega) (by omega)
    have h2 := nth_get (l := m) (i := j) (by omega) (by omega)
    simp only [Int.toNat_natCast] at h1 h2
    rw [h1, h2, h j (by omega) (by omega)]
  · rw [List.getElem?_eq_none (by omega), List.getElem?_eq_none (by omega)]
theorem sameC_spec {v v2 : Value} {l m : List GClaim} {w : World} (hr : Rd fGClaim.ty w v l) (hr2 : Rd fGClaim.ty w v2 m) (hl : l.length ≤ 1000000000) (hm : m.length ≤ 1000000000) :
    CallsV Try.prog 20 #[v, v2] w (.bool (decide (l = m))) := by
  have S := St.start w
  obtain ⟨A, c, rfl⟩ := hr.len
  obtain ⟨A2, c2, rfl⟩ := hr2.len
  refine CallsV.mk ?_
  refine calls_enter Try.func20 rfl (by intro _ h; first | exact nomatch h.1 | (obtain ⟨_, h, _⟩ := h; exact nomatch h)) Try.ntmps20 rfl ?_
  repeat' (first | refine WP_seq ?_ | refine WP_region ?_ | refine wl_nil ?_ | refine then_normal ?_ | refine then_ret ?_ | refine WP_ret ?_ | refine WP_skip ?_ | refine WP_block ?_ | (refine g_move ?_; refine st_move rfl ?_) | (refine g_assign ?_; refine st_assign rfl ?_) | (refine g_b_neq ?_; refine st_val rfl (r_neq rfl rfl) ?_) | (refine g_c_len ?_; refine st_val rfl (r_lenSlice rfl) ?_) | (refine WP_cond rfl (fun h => ?_) (fun h => ?_) <;> (fail_if_success (have hh : true = true := h)) <;> (fail_if_success (have hh : false = false := h)) <;> (try simp only [decide_eq_true_eq, decide_eq_false_iff_not, Bool.not_eq_true', Bool.not_eq_false', Int.not_lt, Int.not_le] at h) <;> (try (exfalso; omega))))
  · exact end1 rfl rfl ⟨rb (by rw [decide_eq_false]; rintro rfl; omega), S.below⟩
  refine WP_loop (fun k σ w1 => ∃ i : Int, Has σ [(0, .slice A l.length c), (1, .slice A2 m.length c2), (5, .int .i64 i)] ∧ St w w1 [] ∧ 0 ≤ i ∧ i ≤ l.length ∧ k = l.length - i.toNat ∧ ∀ j : Int, 0 ≤ j → j < i → nth l j = nth m j) l.length ⟨0, ⟨rfl, rfl, rfl, trivial⟩, S, by omega, by omega, by omega, fun j h0 h1 => by omega⟩ ?_
  rintro k σ w1 ⟨i, hs, S, hi0, hi1, rfl, hall⟩
  refine WP_has hs ?_
  repeat' (first | refine WP_seq ?_ | refine WP_region ?_ | refine wl_nil ?_ | refine then_normal ?_ | refine inB_normal ?_ | refine then_exit ?_ | refine inB_here ?_ | refine then_ret ?_ | refine inB_ret ?_ | refine WP_ret ?_ | refine WP_skip ?_ | refine WP_exit ?_ | refine WP_block ?_ | refine WP_draw (by kernel_rfl) (by kernel_rfl) ?_ | (refine ql_nil ?_; intro w hb; replace S := S.grow hb; clear hb) | (refine g_move ?_; refine st_move rfl ?_) | (refine g_assign ?_; refine st_assign rfl ?_) | (refine g_b_add ?_; (refine st_val rfl (r_addN rfl rfl ?_ ?_) ?_; (first | omega | (simp <;> omega)); (first | omega | (simp <;> omega)))) | (refine g_b_lss ?_; refine st_val rfl (r_lss rfl rfl) ?_) | (refine g_c_len ?_; refine st_val rfl (r_lenSlice rfl) ?_) | (refine gq_move ?_; refine q_move rfl ?_) | (refine gq_b_neq ?_; refine q_val rfl (fun w' hb => neq39 rfl rfl) ?_) | (refine gq_indexAddr ?_; first | (refine q_val rfl (fun w' hb => r_indexAddr (hr.mono (S.grow hb).below) rfl rfl ?_ ?_) ?_; (first | omega | (simp <;> omega)); (first | omega | (simp <;> omega))) | (refine q_val rfl (fun w' hb => r_indexAddr (hr2.mono (S.grow hb).below) rfl rfl ?_ ?_) ?_; (first | omega | (simp <;> omega)); (first | omega | (simp <;> omega)))) | (refine gq_load ?_; first | (refine q_val rfl (fun w' hb => r_loadElem (hr.mono (S.grow hb).below) rfl ?_ ?_) ?_; (first | omega | (simp <;> omega)); (first | omega | (simp <;> omega))) | (refine q_val rfl (fun w' hb => r_loadElem (hr2.mono (S.grow hb).below) rfl ?_ ?_) ?_; (first | omega | (simp <;> omega)); (first | omega | (simp <;> omega)))) | (refine WP_cond rfl (fun h => ?_) (fun h => ?_) <;> (fail_if_success (have hh : true = true := h)) <;> (fail_if_success (have hh : false = false := h)) <;> (try simp only [decide_eq_true_eq, decide_eq_false_iff_not, Bool.not_eq_true', Bool.not_eq_false', Int.not_lt, Int.not_le] at h) <;> (try (exfalso; omega))))
  · refine end1 rfl rfl ⟨rb ?_, S.below⟩
    symm; rw [decide_eq_false_iff_not]; rintro rfl
    simp at h
  · refine ⟨⟨_, ?_, i + 1, ⟨rfl, rfl, rfl, trivial⟩, S, by omega, by omega, rfl, fun j h0 h1 => ?_⟩⟩
    · omega
    · by_cases e : j = i
      · subst e; first | exact h | exact of_decide_eq_true h
      · exact hall j h0 (by omega)
  · refine end1 rfl rfl ⟨rb ?_, S.below⟩
    symm; rw [decide_eq_true_iff]
    exact ext_nth (by omega) fun j h0 h1 => hall j h0 (by omega)

theorem ints_spec {v v2 : Value} {l m : List Int} {w : World} (hr : Rd (fInt .i64).ty w v l) (hr2 : Rd (fInt .i64).ty w v2 m) (hl : l.length ≤ 1000000000) (hm : m.length ≤ 1000000000) :
    CallsV Try.prog 27 #[v, v2] w (.bool (decide (l = m))) := by
  have S := St.start w
  obtain ⟨A, c, rfl⟩ := hr.len
  obtain ⟨A2, c2, rfl⟩ := hr2.len
  refine CallsV.mk ?_
  refine calls_enter Try.func27 rfl (by intro _ h; first | exact nomatch h.1 | (obtain ⟨_, h, _⟩ := h; exact nomatch h)) Try.ntmps27 rfl ?_
  repeat' (first | refine WP_seq ?_ | refine WP_region ?_ | refine wl_nil ?_ | refine then_normal ?_ | refine then_ret ?_ | refine WP_ret ?_ | refine WP_skip ?_ | refine WP_block ?_ | (refine g_move ?_; refine st_move rfl ?_) | (refine g_assign ?_; refine st_assign rfl ?_) | (refine g_b_neq ?_; refine st_val rfl (r_neq rfl rfl) ?_) | (refine g_c_len ?_; refine st_val rfl (r_lenSlice rfl) ?_) | (refine WP_cond rfl (fun h => ?_) (fun h => ?_) <;> (fail_if_success (have hh : true = true := h)) <;> (fail_if_success (have hh : false = false := h)) <;> (try simp only [decide_eq_true_eq, decide_eq_false_iff_not, Bool.not_eq_true', Bool.not_eq_false', Int.not_lt, Int.not_le] at h) <;> (try (exfalso; omega))))
  · exact end1 rfl rfl ⟨rb (by rw [decide_eq_false]; rintro rfl; omega), S.below⟩
  refine WP_loop (fun k σ w1 => ∃ i : Int, Has σ [(0, .slice A l.length c), (1, .slice A2 m.length c2), (5, .int .i64 i)] ∧ St w w1 [] ∧ 0 ≤ i ∧ i ≤ l.length ∧ k = l.length - i.toNat ∧ ∀ j : Int, 0 ≤ j → j < i → nth l j = nth m j) l.length ⟨0, ⟨rfl, rfl, rfl, trivial⟩, S, by omega, by omega, by omega, fun j h0 h1 => by omega⟩ ?_
  rintro k σ w1 ⟨i, hs, S, hi0, hi1, rfl, hall⟩
  refine WP_has hs ?_
  repeat' (first | refine WP_seq ?_ | refine WP_region ?_ | refine wl_nil ?_ | refine then_normal ?_ | refine inB_normal ?_ | refine then_exit ?_ | refine inB_here ?_ | refine then_ret ?_ | refine inB_ret ?_ | refine WP_ret ?_ | refine WP_skip ?_ | refine WP_exit ?_ | refine WP_block ?_ | refine WP_draw (by kernel_rfl) (by kernel_rfl) ?_ | (refine ql_nil ?_; intro w hb; replace S := S.grow hb; clear hb) | (refine g_move ?_; refine st_move rfl ?_) | (refine g_assign ?_; refine st_assign rfl ?_) | (refine g_b_add ?_; (refine st_val rfl (r_addN rfl rfl ?_ ?_) ?_; (first | omega | (simp <;> omega)); (first | omega | (simp <;> omega)))) | (refine g_b_lss ?_; refine st_val rfl (r_lss rfl rfl) ?_) | (refine g_c_len ?_; refine st_val rfl (r_lenSlice rfl) ?_) | (refine gq_move ?_; refine q_move rfl ?_) | (refine gq_b_neq ?_; refine q_val rfl (fun w' hb => r_neq rfl rfl) ?_) | (refine gq_indexAddr ?_; first | (refine q_val rfl (fun w' hb => r_indexAddr (hr.mono (S.grow hb).below) rfl rfl ?_ ?_) ?_; (first | omega | (simp <;> omega)); (first | omega | (simp <;> omega))) | (refine q_val rfl (fun w' hb => r_indexAddr (hr2.mono (S.grow hb).below) rfl rfl ?_ ?_) ?_; (first | omega | (simp <;> omega)); (first | omega | (simp <;> omega)))) | (refine gq_load ?_; first | (refine q_val rfl (fun w' hb => r_loadElem1 (hr.mono (S.grow hb).below) rfl ?_ ?_ rfl) ?_; (first | omega | (simp <;> omega)); (first | omega | (simp <;> omega))) | (refine q_val rfl (fun w' hb => r_loadElem1 (hr2.mono (S.grow hb).below) rfl ?_ ?_ rfl) ?_; (first | omega | (simp <;> omega)); (first | omega | (simp <;> omega)))) | (refine WP_cond rfl (fun h => ?_) (fun h => ?_) <;> (fail_if_success (have hh : true = true := h)) <;> (fail_if_success (have hh : false = false := h)) <;> (try simp only [decide_eq_true_eq, decide_eq_false_iff_not, Bool.not_eq_true', Bool.not_eq_false', Int.not_lt, Int.not_le] at h) <;> (try (exfalso; omega))))
  · refine end1 rfl rfl ⟨rb ?_, S.below⟩
    symm; rw [decide_eq_false_iff_not]; rintro rfl
    simp at h
  · refine ⟨⟨_, ?_, i + 1, ⟨rfl, rfl, rfl, trivial⟩, S, by omega, by omega, rfl, fun j h0 h1 => ?_⟩⟩
    · omega
    · by_cases e : j = i
      · subst e; first | exact h | exact of_decide_eq_true h
      · exact hall j h0 (by omega)
  · refine end1 rfl rfl ⟨rb ?_, S.below⟩
    symm; rw [decide_eq_true_iff]
    exact ext_nth (by omega) fun j h0 h1 => hall j h0 (by omega)
theorem same_is {v v2 : Value} {l m : List GClaim} {b : Bool} {w : World} (hr : Rd fGClaim.ty w v l) (hr2 : Rd fGClaim.ty w v2 m) (hl : l.length ≤ 1000) (hm : m.length ≤ 1000) (h : decide (l = m) = b) : CallsV Try.prog 20 #[v, v2] w (.bool b) := by
  rw [← h]; exact sameC_spec hr hr2 (by omega) (by omega)
theorem ints_is {v v2 : Value} {l m : List Int} {b : Bool} {w : World} (hr : Rd (fInt .i64).ty w v l) (hr2 : Rd (fInt .i64).ty w v2 m) (hl : l.length ≤ 1000) (hm : m.length ≤ 1000) (h : decide (l = m) = b) : CallsV Try.prog 27 #[v, v2] w (.bool b) := by
  rw [← h]; exact ints_spec hr hr2 (by omega) (by omega)
def great (l : List Int) : Int := l.foldl max 0
theorem great_snoc {l : List Int} {i : Nat} {x : Int} (h : l[i]? = some x) : great (l.take (i + 1)) = max (great (l.take i)) x := by
  unfold great; rw [List.take_add_one, h, List.foldl_append]; rfl
theorem greatest_spec {v : Value} {l : List Int} {w : World} (hr : Rd (fInt .i64).ty w v l) (hl : l.length ≤ 1000000000) : CallsV Try.prog 28 #[v] w (.int .i64 (great l)) := by
  have S := St.start w
  obtain ⟨A, c, rfl⟩ := hr.len
  refine CallsV.mk ?_
  refine calls_enter Try.func28 rfl (by intro _ h; first | exact nomatch h.1 | (obtain ⟨_, h, _⟩ := h; exact nomatch h)) Try.ntmps28 rfl ?_
  repeat' (first | refine WP_seq ?_ | refine WP_region ?_ | refine wl_nil ?_ | refine then_normal ?_ | refine WP_block ?_ | (refine g_assign ?_; refine st_assign rfl ?_))
  refine WP_loop (fun k σ w1 => ∃ i : Nat, Has σ [(0, .slice A l.length c), (3, .int .i64 (great (l.take i))), (4, .int .i64 (i : Int))] ∧ St w w1 [] ∧ i ≤ l.length ∧ k = l.length - i) l.length ⟨0, ⟨rfl, rfl, rfl, trivial⟩, S, by omega, by omega⟩ ?_
  clear S
  rintro k σ w1 ⟨i, hs, S, hi1, rfl⟩
  refine WP_has hs ?_
  by_cases hi : i < l.length
  · have hx := nth_get (l := l) (i := (i : Int)) (by omega) (by omega)
    rw [Int.toNat_natCast] at hx
    repeat' (first | refine WP_seq ?_ | refine WP_region ?_ | refine wl_nil ?_ | refine then_normal ?_ | refine inB_normal ?_ | refine WP_skip ?_ | refine WP_block ?_ | (refine g_move ?_; refine st_move rfl ?_) | (refine g_assign ?_; refine st_assign rfl ?_) | (refine g_b_add ?_; (refine st_val rfl (r_addN rfl rfl ?_ ?_) ?_; (first | omega | (simp <;> omega)); (first | omega | (simp <;> omega)))) | (refine g_b_lss ?_; refine st_val rfl (r_lss rfl rfl) ?_) | (refine g_c_max ?_; refine st_val rfl (r_max2 rfl rfl) ?_) | (refine g_c_len ?_; refine st_val rfl (r_lenSlice rfl) ?_) | (refine g_indexAddr ?_; (refine st_val rfl (r_indexAddr (hr.mono S.below) rfl rfl ?_ ?_) ?_; (first | omega | (simp <;> omega)); (first | omega | (simp <;> omega)))) | (refine g_load ?_; (refine st_val rfl (r_loadElem1 (hr.mono S.below) rfl ?_ ?_ rfl) ?_; (first | omega | (simp <;> omega)); (first | omega | (simp <;> omega)))) | (refine WP_cond rfl (fun h => ?_) (fun h => ?_) <;> (fail_if_success (have hh : true = true := h)) <;> (fail_if_success (have hh : false = false := h)) <;> (try simp only [decide_eq_true_eq, decide_eq_false_iff_not, Bool.not_eq_true', Bool.not_eq_false', Int.not_lt, Int.not_le] at h) <;> (try (exfalso; omega))))
    refine ⟨⟨_, ?_, i + 1, ⟨rfl, ?_, rfl, trivial⟩, S, by omega, rfl⟩⟩
    · omega
    · rw [great_snoc hx]; rfl
  · have e : i = l.length := by omega
    subst e
    rw [List.take_length]
    repeat' (first | refine WP_seq ?_ | refine WP_region ?_ | refine wl_nil ?_ | refine then_normal ?_ | refine then_exit ?_ | refine inB_here ?_ | refine WP_ret ?_ | refine WP_exit ?_ | (refine g_move ?_; refine st_move rfl ?_) | (refine g_assign ?_; refine st_assign rfl ?_) | (refine g_b_lss ?_; refine st_val rfl (r_lss rfl rfl) ?_) | (refine g_c_len ?_; refine st_val rfl (r_lenSlice rfl) ?_) | (refine WP_cond rfl (fun h => ?_) (fun h => ?_) <;> (fail_if_success (have hh : true = true := h)) <;> (fail_if_success (have hh : false = false := h)) <;> (try simp only [decide_eq_true_eq, decide_eq_false_iff_not, Bool.not_eq_true', Bool.not_eq_false', Int.not_lt, Int.not_le] at h) <;> (try (exfalso; omega))))
    exact end1 rfl rfl ⟨rfl, S.below⟩
theorem nth_take {l : List Int} {c : Int} {n : Nat} (h0 : 0 ≤ c) (h : c < n) : nth (l.take n) c = nth l c := by
  unfold nth; rw [List.getD_eq_getElem?_getD, List.getD_eq_getElem?_getD, List.getElem?_take_of_lt (by omega)]
theorem set_take {l : List Int} {c n : Nat} {x : Int} : (l.set c x).take n = (l.take n).set c x := by
  apply List.ext_getElem?
  intro j
  by_cases hj : j < n
  · rw [List.getElem?_take_of_lt hj, List.getElem?_set, List.getElem?_set, List.getElem?_take_of_lt hj, List.length_take]
    by_cases e : c = j
    · subst e; rw [if_pos rfl, if_pos rfl]
      by_cases h : c < l.length
      · rw [if_pos h, if_pos (by omega)]
      · rw [if_neg h, if_neg (by omega)]
    · rw [if_neg e, if_neg e]
  · rw [List.getElem?_take_eq_none (by omega), List.getElem?_eq_none (by rw [List.length_set, List.length_take]; omega)]
theorem totalsR_run {n now : Int} {v : Value} {l : List GAppearance} {w0 : World} (hn : -9223372036854775808 ≤ n ∧ n ≤ 9223372036854775807) (hr : Rd fGAppearance.ty w0 v l) (hl : l.length ≤ 1000000000) :
    CallsR Try.prog 24 #[.int .i64 n, v, .int .i64 now] w0 (totG n l now w0) := by
  have S := St.start w0
  obtain ⟨A, c, rfl⟩ := hr.len
  refine CallsR.mk ?_
  refine calls_enter Try.func24 rfl (by intro _ h; first | exact nomatch h.1 | (obtain ⟨_, h, _⟩ := h; exact nomatch h)) Try.ntmps24 rfl ?_
  repeat' (first | refine WP_seq ?_ | refine WP_region ?_ | refine wl_nil ?_ | refine then_normal ?_ | refine then_ret ?_ | refine WP_ret ?_ | refine WP_skip ?_ | refine WP_condT rfl ?_ | (refine g_guard ?_; refine st_off rfl ?_) | (refine g_move ?_; refine st_move rfl ?_) | (refine g_assign ?_; refine st_assign rfl ?_) | (refine g_pick ?_; first | refine st_pickT rfl rfl ?_ | refine st_pickF rfl rfl ?_) | (refine g_un ?_; refine st_val rfl (r_not rfl) ?_) | (refine g_callV ?_; first | (refine st_callV rfl (r_call2 rfl rfl rfl) (validR_spec hn (hr.mono S.below) hl) ?_; intro w hb; replace S := S.grow hb; clear hb) | (refine st_callV rfl (r_call3 rfl rfl rfl rfl) (in_spec) ?_; intro w hb; replace S := S.grow hb; clear hb)) | (refine wl_split rfl rfl (fun h => ?_) (fun h => ?_) <;> (fail_if_success (have hh : true = true := h)) <;> (fail_if_success (have hh : false = false := h)) <;> (try simp only [decide_eq_true_eq, decide_eq_false_iff_not, Bool.not_eq_true', Bool.not_eq_false', Int.not_lt, Int.not_le] at h) <;> (try (exfalso; omega))) | (refine WP_cond rfl (fun h => ?_) (fun h => ?_) <;> (fail_if_success (have hh : true = true := h)) <;> (fail_if_success (have hh : false = false := h)) <;> (try simp only [decide_eq_true_eq, decide_eq_false_iff_not, Bool.not_eq_true', Bool.not_eq_false', Int.not_lt, Int.not_le] at h) <;> (try (exfalso; omega))))
  · have hok : okA n l now = false := by unfold okA; simp_all
    have he : errI n l now = 130 := by unfold errI; rw [if_neg (by simp [hok])]
    have hcl : totI n l now = [] := by unfold totI; rw [if_neg (by simp [hok])]
    refine end2 rfl rfl rfl ⟨_, rfl, S.below, .slice none 0 0, ?_, ?_⟩
    · rw [he]; rfl
    · rw [hcl]; exact NewRow.nil (fInt .i64) 3 _ _
  · have hok : okA n l now = false := by unfold okA; simp_all
    have he : errI n l now = 130 := by unfold errI; rw [if_neg (by simp [hok])]
    have hcl : totI n l now = [] := by unfold totI; rw [if_neg (by simp [hok])]
    refine end2 rfl rfl rfl ⟨_, rfl, S.below, .slice none 0 0, ?_, ?_⟩
    · rw [he]; rfl
    · rw [hcl]; exact NewRow.nil (fInt .i64) 3 _ _
  have hok : okA n l now = true := by unfold okA; simp_all
  have hvd : validA n l = true := by simp_all
  have he : errI n l now = 0 := by unfold errI; rw [if_pos hok]
  have hcl : totI n l now = (hadAt l now l.length).take n.toNat := by unfold totI; rw [if_pos hok]
  have hva := valid_at hvd
  have hnn : (n.toNat : Int) = n := by omega
  refine st_valE rfl (r_makeF (D := fInt .i64) (m := n.toNat) 0 S (by show Value.int .i64 n = .int .i64 (n.toNat : Int); rw [hnn]) (by show Value.int .i64 n = .int .i64 (n.toNat : Int); rw [hnn]) rfl (by decide) (by omega) (by omega)) ?_
  rintro _ w ⟨bo, rfl, -, S'⟩
  replace S := S'.front
  clear S'
  rw [show List.replicate n.toNat (0 : Int) = (hadAt l now 0).take n.toNat by unfold hadAt; rw [List.take_replicate, Nat.min_eq_left (by omega)]] at S
  repeat' (first | refine WP_seq ?_ | refine WP_region ?_ | refine wl_nil ?_ | refine then_normal ?_ | refine WP_block ?_ | (refine g_assign ?_; refine st_assign rfl ?_))
  refine WP_loop (fun k σ w1 => ∃ i : Nat, Has σ [(1, .slice A l.length c), (2, .int .i64 now), (8, .slice (some ⟨bo, 0, none⟩) n.toNat n.toNat), (9, .int .i64 (i : Int))] ∧ St w0 w1 [rowOb (fInt .i64) 3 (.slice (some ⟨bo, 0, none⟩) n.toNat n.toNat) ((hadAt l now i).take n.toNat)] ∧ i ≤ l.length ∧ k = l.length - i) l.length ⟨0, ⟨rfl, rfl, rfl, rfl, trivial⟩, S, by omega, by omega⟩ ?_
  clear S
  rintro k σ w1 ⟨i, hs', S, hi1, rfl⟩
  refine WP_has hs' ?_
  have htl : ((hadAt l now i).take n.toNat).length = n.toNat := by rw [List.length_take, hadAt_len]; omega
  by_cases hi : i < l.length
  · obtain ⟨e1, e2, e3, e4, e5⟩ := valid_el hvd hi
    by_cases hat : (nth l (i : Int)).At ≤ now
    · have eh : hadAt l now (i + 1) = (hadAt l now i).set (nth l (i : Int)).Candidate.toNat (nth (hadAt l now i) (nth l (i : Int)).Candidate + worthA (nth l (i : Int))) := by rw [hadAt, if_pos hat]
      have hwb := worth_bound e3 e4
      have hwm : (nth l (i : Int)).Seconds * (nth l (i : Int)).Weight = worthA (nth l (i : Int)) := rfl
      have hnt := nth_take (l := hadAt l now i) (n := n.toNat) e1.1 (by omega)
      have hhb := hadAt_bound (now := now) hvd i (by omega) _ (List.mem_of_getElem? (nth_get (l := hadAt l now i) (i := (nth l (i : Int)).Candidate) (by omega) (by rw [hadAt_len]; omega)))
      repeat' (first | refine WP_seq ?_ | refine WP_region ?_ | refine wl_nil ?_ | refine then_normal ?_ | refine WP_skip ?_ | refine WP_block ?_ | refine WP_drawTail 27 (by kernel_rfl) (by decide +kernel) ?_ | (refine ql_nil ?_; intro w hb; replace S := S.grow hb; clear hb) | (refine g_move ?_; refine st_move rfl ?_) | (refine g_b_lss ?_; refine st_val rfl (r_lss rfl rfl) ?_) | (refine g_b_leq ?_; refine st_val rfl (r_leq rfl rfl) ?_) | (refine g_c_len ?_; refine st_val rfl (r_lenSlice rfl) ?_) | (refine g_fieldAddr ?_; refine st_val rfl (r_fieldAddr rfl) ?_) | (refine g_indexAddr ?_; (refine st_val rfl (r_indexAddr (hr.mono S.below) rfl rfl ?_ ?_) ?_; (first | omega | (simp <;> omega)); (first | omega | (simp <;> omega)))) | (refine g_load ?_; (refine st_val rfl (r_loadElemF (hr.mono S.below) rfl ?_ ?_ rfl) ?_; (first | omega | (simp <;> omega)); (first | omega | (simp <;> omega)))) | (refine gq_move ?_; refine q_move rfl ?_) | (refine gq_b_add ?_; (refine q_val rfl (fun w' hb => r_addN rfl rfl ?_ ?_) ?_; (first | omega | (simp <;> omega)); (first | omega | (simp <;> omega)))) | (refine gq_b_mul ?_; (refine q_val rfl (fun w' hb => r_mulN rfl rfl ?_ ?_) ?_; (first | omega | (simp <;> omega)); (first | omega | (simp <;> omega)))) | (refine gq_fieldAddr ?_; refine q_val rfl (fun w' hb => r_fieldAddr rfl) ?_) | (refine gq_indexAddr ?_; first | (refine q_val rfl (fun w' hb => r_indexAddr (hr.mono (S.grow hb).below) rfl rfl ?_ ?_) ?_; (first | omega | (simp <;> omega)); (first | omega | (simp <;> omega))) | (refine q_val rfl (fun w' hb => r_indexAddr ((S.grow hb).rdRow (D := fInt .i64) (i := 0) rfl) rfl rfl ?_ ?_) ?_; (first | omega | (simp <;> omega)); (first | omega | (simp <;> omega)))) | (refine gq_load ?_; first | (refine q_val rfl (fun w' hb => r_loadElem1 (hr.mono (S.grow hb).below) rfl ?_ ?_ rfl) ?_; (first | omega | (simp <;> omega)); (first | omega | (simp <;> omega))) | (refine q_val rfl (fun w' hb => r_loadElemF (hr.mono (S.grow hb).below) rfl ?_ ?_ rfl) ?_; (first | omega | (simp <;> omega)); (first | omega | (simp <;> omega))) | (refine q_val rfl (fun w' hb => r_loadElem1 ((S.grow hb).rdRow (D := fInt .i64) (i := 0) rfl) rfl ?_ ?_ rfl) ?_; (first | omega | (simp <;> omega)); (first | omega | (simp <;> omega)))) | (refine WP_cond rfl (fun h => ?_) (fun h => ?_) <;> (fail_if_success (have hh : true = true := h)) <;> (fail_if_success (have hh : false = false := h)) <;> (try simp only [decide_eq_true_eq, decide_eq_false_iff_not, Bool.not_eq_true', Bool.not_eq_false', Int.not_lt, Int.not_le] at h) <;> (try (exfalso; omega))))
      refine g_store ?_
      refine st_skipE rfl (r_storeElem (i := 0) (D := fInt .i64) (x := nth ((hadAt l now i).take n.toNat) (nth l (i : Int)).Candidate + (nth l (i : Int)).Seconds * (nth l (i : Int)).Weight) (j := (nth l (i : Int)).Candidate) S rfl rfl rfl rfl (fun u hu => by cases List.mem_singleton.1 hu; rfl) e1.1 (by omega)) ?_
      intro w S'
      replace S : St w0 w [rowOb (fInt .i64) 3 (.slice (some ⟨bo, 0, none⟩) n.toNat n.toNat) ((hadAt l now (i + 1)).take n.toNat)] := by
        rw [eh, set_take, ← hnt, ← hwm]; exact S'
      repeat' (first | refine WP_region ?_ | refine wl_nil ?_ | refine then_normal ?_ | refine inB_normal ?_ | (refine g_move ?_; refine st_move rfl ?_) | (refine g_assign ?_; refine st_assign rfl ?_) | (refine g_b_add ?_; (refine st_val rfl (r_addN rfl rfl ?_ ?_) ?_; (first | omega | (simp <;> omega)); (first | omega | (simp <;> omega)))))
      refine ⟨⟨_, ?_, i + 1, ⟨rfl, rfl, rfl, rfl, trivial⟩, S, by omega, rfl⟩⟩
      omega
    · have eh : hadAt l now (i + 1) = hadAt l now i := by rw [hadAt, if_neg hat]
      repeat' (first | refine WP_seq ?_ | refine WP_region ?_ | refine wl_nil ?_ | refine then_normal ?_ | refine inB_normal ?_ | refine WP_skip ?_ | refine WP_block ?_ | (refine g_move ?_; refine st_move rfl ?_) | (refine g_assign ?_; refine st_assign rfl ?_) | (refine g_b_add ?_; (refine st_val rfl (r_addN rfl rfl ?_ ?_) ?_; (first | omega | (simp <;> omega)); (first | omega | (simp <;> omega)))) | (refine g_b_lss ?_; refine st_val rfl (r_lss rfl rfl) ?_) | (refine g_b_leq ?_; refine st_val rfl (r_leq rfl rfl) ?_) | (refine g_c_len ?_; refine st_val rfl (r_lenSlice rfl) ?_) | (refine g_fieldAddr ?_; refine st_val rfl (r_fieldAddr rfl) ?_) | (refine g_indexAddr ?_; (refine st_val rfl (r_indexAddr (hr.mono S.below) rfl rfl ?_ ?_) ?_; (first | omega | (simp <;> omega)); (first | omega | (simp <;> omega)))) | (refine g_load ?_; (refine st_val rfl (r_loadElemF (hr.mono S.below) rfl ?_ ?_ rfl) ?_; (first | omega | (simp <;> omega)); (first | omega | (simp <;> omega)))) | (refine WP_cond rfl (fun h => ?_) (fun h => ?_) <;> (fail_if_success (have hh : true = true := h)) <;> (fail_if_success (have hh : false = false := h)) <;> (try simp only [decide_eq_true_eq, decide_eq_false_iff_not, Bool.not_eq_true', Bool.not_eq_false', Int.not_lt, Int.not_le] at h) <;> (try (exfalso; omega))))
      refine ⟨⟨_, ?_, i + 1, ⟨rfl, rfl, rfl, rfl, trivial⟩, by rw [eh]; exact S, by omega, rfl⟩⟩
      omega
  · have ei : i = l.length := by omega
    subst ei
    repeat' (first | refine WP_seq ?_ | refine WP_region ?_ | refine wl_nil ?_ | refine then_normal ?_ | refine then_exit ?_ | refine inB_here ?_ | refine WP_ret ?_ | refine WP_exit ?_ | (refine g_move ?_; refine st_move rfl ?_) | (refine g_assign ?_; refine st_assign rfl ?_) | (refine g_b_lss ?_; refine st_val rfl (r_lss rfl rfl) ?_) | (refine g_c_len ?_; refine st_val rfl (r_lenSlice rfl) ?_) | (refine WP_cond rfl (fun h => ?_) (fun h => ?_) <;> (fail_if_success (have hh : true = true := h)) <;> (fail_if_success (have hh : false = false := h)) <;> (try simp only [decide_eq_true_eq, decide_eq_false_iff_not, Bool.not_eq_true', Bool.not_eq_false', Int.not_lt, Int.not_le] at h) <;> (try (exfalso; omega))))
    refine end2 rfl rfl rfl ⟨_, rfl, S.below, .slice (some ⟨bo, 0, none⟩) n.toNat n.toNat, ?_, ?_⟩
    · rw [he]; rfl
    · rw [hcl]; exact S.row (i := 0) rfl
theorem byC_snoc {l : List GClaim} {j : Nat} {x : GClaim} {k : Nat} (hx : l[j]? = some x) : byC k (l.take (j + 1)) = byC k (l.take j) ++ (if x.Candidate = (k : Int) then [x] else []) := by
  unfold byC
  rw [List.take_add_one, hx, List.filter_append]
  by_cases h : x.Candidate = (k : Int)
  · simp [h]
  · simp [h]
theorem sums_snoc {n : Nat} {l : List GClaim} {j : Nat} {x : GClaim} (hx : l[j]? = some x) (h0 : 0 ≤ x.Candidate) (h1 : x.Candidate < n) : ((List.range n).map fun k => sumR (byC k (l.take (j + 1)))) = ((List.range n).map fun k => sumR (byC k (l.take j))).set x.Candidate.toNat (sumR (byC x.Candidate.toNat (l.take j)) + x.Rest) := by
  apply List.ext_getElem?
  intro k
  by_cases hk : k < n
  · have hg : ∀ f : Nat → Int, ((List.range n).map f)[k]? = some (f k) := fun f => by rw [List.getElem?_map, List.getElem?_range hk]; rfl
    by_cases e : x.Candidate.toNat = k
    · subst e
      rw [List.getElem?_set_self (by simpa using hk), hg, byC_snoc hx, if_pos (by omega), sumR_append]; simp [sumR]
    · rw [List.getElem?_set_ne e, hg, hg, byC_snoc hx, if_neg (by omega), List.append_nil]
  · rw [List.getElem?_eq_none (by simpa using hk), List.getElem?_eq_none (by simpa using hk)]
theorem owedR_run {n now : Int} {v : Value} {l : List GAppearance} {w0 : World} (hn : -9223372036854775808 ≤ n ∧ n ≤ 9223372036854775807) (hr : Rd fGAppearance.ty w0 v l) (hl : l.length ≤ 1000000000) :
    CallsR Try.prog 22 #[.int .i64 n, v, .int .i64 now] w0 (oweG n l now w0) := by
  have S := St.start w0
  refine CallsR.mk ?_
  refine calls_enter Try.func22 rfl (by intro _ h; first | exact nomatch h.1 | (obtain ⟨_, h, _⟩ := h; exact nomatch h)) Try.ntmps22 rfl ?_
  repeat' (first | refine WP_seq ?_ | refine WP_region ?_ | refine wl_nil ?_ | refine then_normal ?_ | (refine g_move ?_; refine st_move rfl ?_) | (refine g_assign ?_; refine st_assign rfl ?_))
  refine st_callR rfl (r_call3 rfl rfl rfl rfl) (claimsR_run hn (hr.mono S.below) hl) ?_
  rintro v w hb ⟨u, rfl, hrow⟩
  replace S := S.new hb hrow
  clear hb hrow
  by_cases hok : okA n l now = true
  · have he : errI n l now = 0 := by unfold errI; rw [if_pos hok]
    have hcl : oweI n l now = (List.range n.toNat).map fun k => sumR (byC k (claimsI n l now)) := by unfold oweI; rw [if_pos hok]; rfl
    have hvd : validA n l = true := by unfold okA at hok; simp only [Bool.and_eq_true] at hok; exact hok.1
    have hva := valid_at hvd
    have hnn : (n.toNat : Int) = n := by omega
    have hcm := fun c => claims_mem (n := n) (l := l) (now := now) (c := c)
    have hcn := claims_len (n := n) (l := l) (now := now)
    rw [he]
    generalize claimsI n l now = cl at S hcl hcm hcn
    obtain ⟨A, c, hv⟩ := (S.rdRow (D := fGClaim) (i := 0) rfl).len
    subst hv
    repeat' (first | refine WP_seq ?_ | refine WP_region ?_ | refine wl_nil ?_ | refine then_normal ?_ | refine WP_skip ?_ | refine WP_condF rfl ?_ | (refine g_move ?_; refine st_move rfl ?_) | (refine g_assign ?_; refine st_assign rfl ?_) | (refine g_b_neq ?_; refine st_val rfl (r_neq rfl rfl) ?_) | (refine g_extract ?_; refine st_val rfl (r_extract rfl rfl) ?_))
    refine st_valE rfl (r_makeF (D := fInt .i64) (m := n.toNat) 0 S (by show Value.int .i64 n = .int .i64 (n.toNat : Int); rw [hnn]) (by show Value.int .i64 n = .int .i64 (n.toNat : Int); rw [hnn]) rfl (by decide) (by omega) (by omega)) ?_
    rintro _ w ⟨bo, rfl, -, S'⟩
    replace S := S'.front
    clear S'
    rw [show List.replicate n.toNat (0 : Int) = (List.range n.toNat).map fun k => sumR (byC k (cl.take 0)) by symm; rw [List.eq_replicate_iff]; refine ⟨by simp, fun b hb => ?_⟩; obtain ⟨k, _, rfl⟩ := List.mem_map.1 hb; rfl] at S
    repeat' (first | refine WP_seq ?_ | refine WP_region ?_ | refine wl_nil ?_ | refine then_normal ?_ | refine WP_block ?_ | (refine g_assign ?_; refine st_assign rfl ?_))
    refine WP_loop (fun k σ w1 => ∃ i : Nat, Has σ [(8, .slice A cl.length c), (10, .slice (some ⟨bo, 0, none⟩) n.toNat n.toNat), (11, .int .i64 (i : Int))] ∧ St w0 w1 [rowOb (fInt .i64) 3 (.slice (some ⟨bo, 0, none⟩) n.toNat n.toNat) ((List.range n.toNat).map fun k => sumR (byC k (cl.take i))), rowOb fGClaim 39 (.slice A cl.length c) cl] ∧ i ≤ cl.length ∧ k = cl.length - i) cl.length ⟨0, ⟨rfl, rfl, rfl, trivial⟩, S, by omega, by omega⟩ ?_
    clear S
    rintro k σ w1 ⟨i, hs', S, hi1, rfl⟩
    refine WP_has hs' ?_
    have htl : ((List.range n.toNat).map fun k => sumR (byC k (cl.take i))).length = n.toNat := by simp
    by_cases hi : i < cl.length
    · have hx := nth_get (l := cl) (i := (i : Int)) (by omega) (by omega)
      rw [Int.toNat_natCast] at hx
      have hxm := hcm _ (List.mem_of_getElem? hx)
      have hsn := sums_snoc (n := n.toNat) hx hxm.1.1 (by omega)
      have hnt : nth ((List.range n.toNat).map fun k => sumR (byC k (cl.take i))) (nth cl (i : Int)).Candidate = sumR (byC (nth cl (i : Int)).Candidate.toNat (cl.take i)) := by
        unfold nth; rw [List.getD_eq_getElem?_getD, List.getElem?_map, List.getElem?_range (by have := hxm.1; unfold nth at this; omega)]; rfl
      have hsb := sumR_bound (byC (nth cl (i : Int)).Candidate.toNat (cl.take i)) (fun c hc => (hcm c (List.mem_of_mem_take (List.mem_filter.1 hc).1)).2)
      have hbl : (byC (nth cl (i : Int)).Candidate.toNat (cl.take i)).length ≤ 480 := by
        unfold byC; exact Nat.le_trans (List.length_filter_le _ _) (by rw [List.length_take]; omega)
      generalize hfs : ((List.range n.toNat).map fun k => sumR (byC k (cl.take i))) = fs at S htl hsn hnt
      repeat' (first | refine WP_seq ?_ | refine WP_region ?_ | refine wl_nil ?_ | refine then_normal ?_ | refine WP_skip ?_ | refine WP_block ?_ | refine WP_drawTail 21 (by kernel_rfl) (by decide +kernel) ?_ | (refine ql_nil ?_; intro w hb; replace S := S.grow hb; clear hb) | (refine g_move ?_; refine st_move rfl ?_) | (refine g_b_lss ?_; refine st_val rfl (r_lss rfl rfl) ?_) | (refine g_c_len ?_; refine st_val rfl (r_lenSlice rfl) ?_) | (refine gq_move ?_; refine q_move rfl ?_) | (refine gq_b_add ?_; (refine q_val rfl (fun w' hb => r_addN rfl rfl ?_ ?_) ?_; (first | omega | (simp <;> omega)); (first | omega | (simp <;> omega)))) | (refine gq_fieldAddr ?_; refine q_val rfl (fun w' hb => r_fieldAddr rfl) ?_) | (refine gq_indexAddr ?_; first | (refine q_val rfl (fun w' hb => r_indexAddr ((S.grow hb).rdRow (D := fGClaim) (i := 1) rfl) rfl rfl ?_ ?_) ?_; (first | omega | (simp <;> omega)); (first | omega | (simp <;> omega))) | (refine q_val rfl (fun w' hb => r_indexAddr ((S.grow hb).rdRow (D := fInt .i64) (i := 0) rfl) rfl rfl ?_ ?_) ?_; (first | omega | (simp <;> omega)); (first | omega | (simp <;> omega)))) | (refine gq_load ?_; first | (refine q_val rfl (fun w' hb => r_loadElem1 ((S.grow hb).rdRow (D := fGClaim) (i := 1) rfl) rfl ?_ ?_ rfl) ?_; (first | omega | (simp <;> omega)); (first | omega | (simp <;> omega))) | (refine q_val rfl (fun w' hb => r_loadElemF ((S.grow hb).rdRow (D := fGClaim) (i := 1) rfl) rfl ?_ ?_ rfl) ?_; (first | omega | (simp <;> omega)); (first | omega | (simp <;> omega))) | (refine q_val rfl (fun w' hb => r_loadElem1 ((S.grow hb).rdRow (D := fInt .i64) (i := 0) rfl) rfl ?_ ?_ rfl) ?_; (first | omega | (simp <;> omega)); (first | omega | (simp <;> omega)))) | (refine WP_cond rfl (fun h => ?_) (fun h => ?_) <;> (fail_if_success (have hh : true = true := h)) <;> (fail_if_success (have hh : false = false := h)) <;> (try simp only [decide_eq_true_eq, decide_eq_false_iff_not, Bool.not_eq_true', Bool.not_eq_false', Int.not_lt, Int.not_le] at h) <;> (try (exfalso; omega))))
      refine g_store ?_
      refine st_skipE rfl (r_storeElem (i := 0) (D := fInt .i64) (x := nth fs (nth cl (i : Int)).Candidate + (nth cl (i : Int)).Rest) (j := (nth cl (i : Int)).Candidate) S rfl rfl rfl rfl (fun u hu => by cases List.mem_singleton.1 hu; rfl) hxm.1.1 (by omega)) ?_
      intro w S'
      rw [hnt, ← hsn] at S'
      replace S := S'
      repeat' (first | refine WP_region ?_ | refine wl_nil ?_ | refine then_normal ?_ | refine inB_normal ?_ | (refine g_move ?_; refine st_move rfl ?_) | (refine g_assign ?_; refine st_assign rfl ?_) | (refine g_b_add ?_; (refine st_val rfl (r_addN rfl rfl ?_ ?_) ?_; (first | omega | (simp <;> omega)); (first | omega | (simp <;> omega)))))
      refine ⟨⟨_, ?_, i + 1, ⟨rfl, rfl, rfl, trivial⟩, S, by omega, rfl⟩⟩
      omega
    · have ei : i = cl.length := by omega
      subst ei
      rw [List.take_length] at S
      repeat' (first | refine WP_seq ?_ | refine WP_region ?_ | refine wl_nil ?_ | refine then_normal ?_ | refine then_exit ?_ | refine inB_here ?_ | refine WP_ret ?_ | refine WP_exit ?_ | (refine g_move ?_; refine st_move rfl ?_) | (refine g_assign ?_; refine st_assign rfl ?_) | (refine g_b_lss ?_; refine st_val rfl (r_lss rfl rfl) ?_) | (refine g_c_len ?_; refine st_val rfl (r_lenSlice rfl) ?_) | (refine WP_cond rfl (fun h => ?_) (fun h => ?_) <;> (fail_if_success (have hh : true = true := h)) <;> (fail_if_success (have hh : false = false := h)) <;> (try simp only [decide_eq_true_eq, decide_eq_false_iff_not, Bool.not_eq_true', Bool.not_eq_false', Int.not_lt, Int.not_le] at h) <;> (try (exfalso; omega))))
      refine end2 rfl rfl rfl ⟨_, rfl, S.below, .slice (some ⟨bo, 0, none⟩) n.toNat n.toNat, ?_, ?_⟩
      · rw [he]; rfl
      · rw [hcl]; exact S.row (i := 0) rfl
  · have hok : okA n l now = false := by simpa using hok
    have he : errI n l now = 130 := by unfold errI; rw [if_neg (by simp [hok])]
    have hcl : oweI n l now = [] := by unfold oweI; rw [if_neg (by simp [hok])]
    rw [he]
    repeat' (first | refine WP_seq ?_ | refine WP_region ?_ | refine wl_nil ?_ | refine then_normal ?_ | refine then_ret ?_ | refine WP_ret ?_ | refine WP_condT rfl ?_ | (refine g_move ?_; refine st_move rfl ?_) | (refine g_assign ?_; refine st_assign rfl ?_) | (refine g_b_neq ?_; refine st_val rfl (r_neq rfl rfl) ?_) | (refine g_extract ?_; refine st_val rfl (r_extract rfl rfl) ?_))
    refine end2 rfl rfl rfl ⟨_, rfl, S.below, .slice none 0 0, ?_, ?_⟩
    · rw [he]; rfl
    · rw [hcl]; exact NewRow.nil (fInt .i64) 3 _ _
end Go.Proofs.Ytcbidfedffegpaa
