import Derived.Test.YtcbidfedffegpaaM
namespace Go.Proofs.Ytcbidfedffegpaa
open Go Go.Gx Go.RowKit
set_option linter.unusedVariables false
set_option linter.unusedSimpArgs false
theorem claims_mem {n : Int} {l : List GAppearance} {now : Int} {c : GClaim} (h : c ∈ claimsI n l now) : (0 ≤ c.Candidate ∧ c.Candidate < n) ∧ 1 ≤ c.Rest ∧ c.Rest ≤ 36000 := by
  unfold claimsI at h
  split at h
  · rename_i hok
    unfold okA at hok; simp only [Bool.and_eq_true] at hok
    have := (openC_ok (now := now) hok.1 l.length (Nat.le_refl _)).mem c h
    omega
  · cases h
theorem overdueR_run {n now : Int} {v : Value} {l : List GAppearance} {w0 : World} (hn : -9223372036854775808 ≤ n ∧ n ≤ 9223372036854775807) (hr : Rd fGAppearance.ty w0 v l) (hl : l.length ≤ 1000000000) :
    CallsR Try.prog 19 #[.int .i64 n, v, .int .i64 now] w0 (overG n l now w0) := by
  have S := St.start w0
  refine CallsR.mk ?_
  refine calls_enter Try.func19 rfl (by intro _ h; first | exact nomatch h.1 | (obtain ⟨_, h, _⟩ := h; exact nomatch h)) Try.ntmps19 rfl ?_
  repeat' (first | refine WP_seq ?_ | refine WP_region ?_ | refine wl_nil ?_ | refine then_normal ?_ | (refine g_move ?_; refine st_move rfl ?_) | (refine g_assign ?_; refine st_assign rfl ?_))
  refine st_callR rfl (r_call3 rfl rfl rfl rfl) (claimsR_run hn (hr.mono S.below) hl) ?_
  rintro v w hb ⟨u, rfl, hrow⟩
  replace S := ((S.new hb hrow).nilRow fGClaim 39).front
  clear hb hrow
  have hcl := claims_len (n := n) (l := l) (now := now)
  have hov : overI n l now = kept now (claimsI n l now) := rfl
  generalize claimsI n l now = cl at S hcl hov
  obtain ⟨A, c, hv⟩ := (S.rdRow (D := fGClaim) (i := 1) rfl).len
  subst hv
  repeat' (first | refine WP_seq ?_ | refine WP_region ?_ | refine wl_nil ?_ | refine then_normal ?_ | refine WP_block ?_ | (refine g_move ?_; refine st_move rfl ?_) | (refine g_assign ?_; refine st_assign rfl ?_) | (refine g_extract ?_; refine st_val rfl (r_extract rfl rfl) ?_))
  refine WP_loop (fun k σ w1 => ∃ (i : Nat) (v : Value), Has σ [(2, .int .i64 now), (8, .slice A cl.length c), (9, .int .i64 (errI n l now)), (10, v), (11, .int .i64 (i : Int))] ∧ St w0 w1 [rowOb fGClaim 39 v (kept now (cl.take i)), rowOb fGClaim 39 (.slice A cl.length c) cl] ∧ i ≤ cl.length ∧ k = cl.length - i) cl.length ⟨0, _, ⟨rfl, rfl, rfl, rfl, rfl, trivial⟩, S, by omega, by omega⟩ ?_
  clear S
  rintro k σ w1 ⟨i, v, hs', S, hi1, rfl⟩
  refine WP_has hs' ?_
  have hkl : (kept now (cl.take i)).length ≤ 480 := by
    unfold kept; exact Nat.le_trans (List.length_filter_le _ _) (by rw [List.length_take]; omega)
  by_cases hi : i < cl.length
  · have hx := nth_get (l := cl) (i := (i : Int)) (by omega) (by omega)
    rw [Int.toNat_natCast] at hx
    have hsn := kept_snoc (now := now) hx
    by_cases hu : (nth cl (i : Int)).Until < now
    · rw [if_pos hu] at hsn
      repeat' (first | refine WP_seq ?_ | refine WP_region ?_ | refine wl_nil ?_ | refine then_normal ?_ | refine WP_skip ?_ | refine WP_block ?_ | (refine g_move ?_; refine st_move rfl ?_) | (refine g_b_lss ?_; refine st_val rfl (r_lss rfl rfl) ?_) | (refine g_c_len ?_; refine st_val rfl (r_lenSlice rfl) ?_) | (refine g_fieldAddr ?_; refine st_val rfl (r_fieldAddr rfl) ?_) | (refine g_indexAddr ?_; (refine st_val rfl (r_indexAddr (S.rdRow (D := fGClaim) (i := 1) rfl) rfl rfl ?_ ?_) ?_; (first | omega | (simp <;> omega)); (first | omega | (simp <;> omega)))) | (refine g_load ?_; first | (refine st_val rfl (r_loadElem (S.rdRow (D := fGClaim) (i := 1) rfl) rfl ?_ ?_) ?_; (first | omega | (simp <;> omega)); (first | omega | (simp <;> omega))) | (refine st_val rfl (r_loadElemF (S.rdRow (D := fGClaim) (i := 1) rfl) rfl ?_ ?_ rfl) ?_; (first | omega | (simp <;> omega)); (first | omega | (simp <;> omega)))) | (refine WP_cond rfl (fun h => ?_) (fun h => ?_) <;> (fail_if_success (have hh : true = true := h)) <;> (fail_if_success (have hh : false = false := h)) <;> (try simp only [decide_eq_true_eq, decide_eq_false_iff_not, Bool.not_eq_true', Bool.not_eq_false', Int.not_lt, Int.not_le] at h) <;> (try (exfalso; omega))))
      refine st_valE rfl (r_litF (D := fGClaim) [nth cl (i : Int)] (fun x => .agg x.enc.toArray) S rfl rfl (fun _ => rfl) rfl (by decide) (by decide)) ?_
      rintro _ w ⟨bl, rfl, -, -, S'⟩
      replace S := S'.front
      clear S'
      refine st_valE rfl (r_appendRd (i := 1) (D := fGClaim) S rfl (S.rdRow (D := fGClaim) (i := 0) rfl) rfl rfl rfl (by decide) (by intro x u hu; simp [fGClaim, GClaim.enc] at hu; rcases hu with rfl | rfl | rfl | rfl <;> rfl) (by rw [List.length_singleton]; omega) (by rw [List.length_singleton]; omega)) ?_
      rintro v' w ⟨_, S'⟩
      replace S := S'.keep [false, true, true]
      clear S'
      repeat' (first | refine WP_region ?_ | refine wl_nil ?_ | refine then_normal ?_ | refine inB_normal ?_ | (refine g_move ?_; refine st_move rfl ?_) | (refine g_assign ?_; refine st_assign rfl ?_) | (refine g_b_add ?_; (refine st_val rfl (r_addN rfl rfl ?_ ?_) ?_; (first | omega | (simp <;> omega)); (first | omega | (simp <;> omega)))))
      refine ⟨⟨_, ?_, i + 1, v', ⟨rfl, rfl, rfl, rfl, rfl, trivial⟩, by rw [hsn]; exact S, by omega, rfl⟩⟩
      omega
    · rw [if_neg hu, List.append_nil] at hsn
      repeat' (first | refine WP_seq ?_ | refine WP_region ?_ | refine wl_nil ?_ | refine then_normal ?_ | refine inB_normal ?_ | refine WP_skip ?_ | refine WP_block ?_ | (refine g_move ?_; refine st_move rfl ?_) | (refine g_assign ?_; refine st_assign rfl ?_) | (refine g_b_add ?_; (refine st_val rfl (r_addN rfl rfl ?_ ?_) ?_; (first | omega | (simp <;> omega)); (first | omega | (simp <;> omega)))) | (refine g_b_lss ?_; refine st_val rfl (r_lss rfl rfl) ?_) | (refine g_c_len ?_; refine st_val rfl (r_lenSlice rfl) ?_) | (refine g_fieldAddr ?_; refine st_val rfl (r_fieldAddr rfl) ?_) | (refine g_indexAddr ?_; (refine st_val rfl (r_indexAddr (S.rdRow (D := fGClaim) (i := 1) rfl) rfl rfl ?_ ?_) ?_; (first | omega | (simp <;> omega)); (first | omega | (simp <;> omega)))) | (refine g_load ?_; (refine st_val rfl (r_loadElemF (S.rdRow (D := fGClaim) (i := 1) rfl) rfl ?_ ?_ rfl) ?_; (first | omega | (simp <;> omega)); (first | omega | (simp <;> omega)))) | (refine WP_cond rfl (fun h => ?_) (fun h => ?_) <;> (fail_if_success (have hh : true = true := h)) <;> (fail_if_success (have hh : false = false := h)) <;> (try simp only [decide_eq_true_eq, decide_eq_false_iff_not, Bool.not_eq_true', Bool.not_eq_false', Int.not_lt, Int.not_le] at h) <;> (try (exfalso; omega))))
      refine ⟨⟨_, ?_, i + 1, v, ⟨rfl, rfl, rfl, rfl, rfl, trivial⟩, by rw [hsn]; exact S, by omega, rfl⟩⟩
      omega
  · have ei : i = cl.length := by omega
    subst ei
    rw [List.take_length] at S
    repeat' (first | refine WP_seq ?_ | refine WP_region ?_ | refine wl_nil ?_ | refine then_normal ?_ | refine then_exit ?_ | refine inB_here ?_ | refine WP_ret ?_ | refine WP_exit ?_ | (refine g_move ?_; refine st_move rfl ?_) | (refine g_assign ?_; refine st_assign rfl ?_) | (refine g_b_lss ?_; refine st_val rfl (r_lss rfl rfl) ?_) | (refine g_c_len ?_; refine st_val rfl (r_lenSlice rfl) ?_) | (refine WP_cond rfl (fun h => ?_) (fun h => ?_) <;> (fail_if_success (have hh : true = true := h)) <;> (fail_if_success (have hh : false = false := h)) <;> (try simp only [decide_eq_true_eq, decide_eq_false_iff_not, Bool.not_eq_true', Bool.not_eq_false', Int.not_lt, Int.not_le] at h) <;> (try (exfalso; omega))))
    refine end2 rfl rfl rfl ⟨_, rfl, S.below, v, rfl, ?_⟩
    rw [hov]; exact S.row (i := 0) rfl
theorem nextR_spec {n now : Int} {v : Value} {l : List GAppearance} {w0 : World} (hn : -9223372036854775808 ≤ n ∧ n ≤ 9223372036854775807) (hr : Rd fGAppearance.ty w0 v l) (hl : l.length ≤ 1000000000) :
    CallsV Try.prog 26 #[.int .i64 n, v, .int .i64 now] w0 (.tuple #[.agg (firstI n l now).1.enc.toArray, .bool (firstI n l now).2]) := by
  have S := St.start w0
  refine CallsV.mk ?_
  refine calls_enter Try.func26 rfl (by intro _ h; first | exact nomatch h.1 | (obtain ⟨_, h, _⟩ := h; exact nomatch h)) Try.ntmps26 rfl ?_
  repeat' (first | refine WP_seq ?_ | refine WP_region ?_ | refine wl_nil ?_ | refine then_normal ?_ | (refine g_move ?_; refine st_move rfl ?_) | (refine g_assign ?_; refine st_assign rfl ?_) | (refine g_alloc ?_; refine st_valE rfl (r_alloc S) ?_; rintro _ w ⟨b, rfl, -, S'⟩; replace S := S'; clear S'))
  refine st_callR rfl (r_call3 rfl rfl rfl rfl) (claimsR_run hn (hr.mono S.below) hl) ?_
  rintro v w hb ⟨u, rfl, hrow⟩
  replace S := S.new hb hrow
  clear hb hrow
  unfold firstI
  have hcl := claims_len (n := n) (l := l) (now := now)
  generalize claimsI n l now = cl at S hcl ⊢
  obtain ⟨A, c, hv⟩ := (S.rdRow (D := fGClaim) (i := 1) rfl).len
  subst hv
  cases cl with
  | nil =>
    repeat' (first | refine WP_seq ?_ | refine WP_region ?_ | refine wl_nil ?_ | refine then_normal ?_ | refine then_ret ?_ | refine WP_ret ?_ | refine WP_condT rfl ?_ | (refine g_move ?_; refine st_move rfl ?_) | (refine g_assign ?_; refine st_assign rfl ?_) | (refine g_b_eql ?_; refine st_val rfl (r_eql rfl rfl) ?_) | (refine g_build ?_; refine st_val rfl (bd39_ ) ?_) | (refine g_extract ?_; refine st_val rfl (r_extract rfl rfl) ?_) | (refine g_c_len ?_; refine st_val rfl (r_lenSlice rfl) ?_) | (refine g_store ?_; (refine st_skipE rfl (r_storeVar (i := 0) S rfl rfl rfl rfl (of_decide_eq_true rfl) (of_decide_eq_true rfl)) ?_; intro w S'; replace S := S'; clear S')))
    exact endCT (T := 39) (sz := 4) (i := 0) (cs := GClaim.enc ⟨0, 0, 0, 0⟩) rfl rfl rfl S rfl rfl ⟨rfl, S.below⟩
  | cons x q =>
    have hlen : (0 : Int) < ((x :: q).length : Int) := by rw [List.length_cons]; omega
    repeat' (first | refine WP_seq ?_ | refine WP_region ?_ | refine wl_nil ?_ | refine then_normal ?_ | refine WP_ret ?_ | refine WP_skip ?_ | refine WP_condF rfl ?_ | (refine g_move ?_; refine st_move rfl ?_) | (refine g_assign ?_; refine st_assign rfl ?_) | (refine g_b_eql ?_; refine st_val rfl (r_eql rfl rfl) ?_) | (refine g_extract ?_; refine st_val rfl (r_extract rfl rfl) ?_) | (refine g_c_len ?_; refine st_val rfl (r_lenSlice rfl) ?_) | (refine g_indexAddr ?_; (refine st_val rfl (r_indexAddr (S.rdRow (D := fGClaim) (i := 1) rfl) rfl rfl ?_ ?_) ?_; (first | omega | (simp <;> omega)); (first | omega | (simp <;> omega)))) | (refine g_load ?_; (refine st_val rfl (r_loadElem (S.rdRow (D := fGClaim) (i := 1) rfl) rfl ?_ ?_) ?_; (first | omega | (simp <;> omega)); (first | omega | (simp <;> omega)))) | (refine g_store ?_; (refine st_skipE rfl (r_storeVar (i := 0) S rfl rfl rfl rfl (of_decide_eq_true rfl) (of_decide_eq_true rfl)) ?_; intro w S'; replace S := S'; clear S')))
    exact endCT (T := 39) (sz := 4) (i := 0) (cs := GClaim.enc x) rfl rfl rfl S rfl rfl ⟨rfl, S.below⟩
end Go.Proofs.Ytcbidfedffegpaa
