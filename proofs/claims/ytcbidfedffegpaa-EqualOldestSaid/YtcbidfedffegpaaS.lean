import Derived.Test.YtcbidfedffegpaaQ
import Derived.Test.YtcbidfedffegpaaR
namespace Go.Proofs.Ytcbidfedffegpaa
open Go Go.Gx Go.RowKit
set_option linter.unusedVariables false
set_option linter.unusedSimpArgs false
theorem okA_of {n : Int} {l : List GAppearance} {now : Int} (h : validA n l = true) (h0 : 0 ≤ now) (h1 : now ≤ 20000000) : okA n l now = true := by
  unfold okA; rw [h]; simp [inR]; omega
theorem err_of {n : Int} {l : List GAppearance} {now : Int} (h : okA n l now = true) : errI n l now = 0 := by unfold errI; rw [if_pos h]
theorem tot_len {n : Int} {l : List GAppearance} {now : Int} (h : okA n l now = true) : (totI n l now).length = n.toNat := by
  have hv : validA n l = true := by unfold okA at h; simp only [Bool.and_eq_true] at h; exact h.1
  have := valid_at hv
  unfold totI; rw [if_pos h, List.length_take, hadAt_len]; omega
theorem owe_len {n : Int} {l : List GAppearance} {now : Int} (h : okA n l now = true) : (oweI n l now).length = n.toNat := by
  unfold oweI sumsI; rw [if_pos h]; simp
theorem owe_nth {n : Int} {l : List GAppearance} {now : Int} (h : okA n l now = true) {k : Nat} (hk : (k : Int) < n) : nth (oweI n l now) (k : Int) = owAt n l now l.length k := by
  have hv : validA n l = true := by unfold okA at h; simp only [Bool.and_eq_true] at h; exact h.1
  unfold oweI sumsI owAt; rw [if_pos h, q_by hv l.length (Nat.le_refl _)]
  unfold nth claimsI
  rw [if_pos h, Int.toNat_natCast, List.getD_eq_getElem?_getD, List.getElem?_map, List.getElem?_range (by omega)]; rfl
theorem tot_nth {n : Int} {l : List GAppearance} {now : Int} (h : okA n l now = true) {k : Nat} (hk : (k : Int) < n) : nth (totI n l now) (k : Int) = nth (hadAt l now l.length) (k : Int) := by
  unfold totI; rw [if_pos h]; exact nth_take (by omega) (by omega)
theorem levels_plain {n : Int} {l : List GAppearance} {now : Int} (h : okA n l now = true) : ∀ k : Nat, (k : Int) < n → 0 ≤ nth (totI n l now) (k : Int) ∧ nth (totI n l now) (k : Int) ≤ 2160000 ∧ 0 ≤ nth (oweI n l now) (k : Int) ∧ nth (totI n l now) (k : Int) + nth (oweI n l now) (k : Int) = great (totI n l now) ∧ great (totI n l now) ≤ 2160000 := by
  have hv : validA n l = true := by unfold okA at h; simp only [Bool.and_eq_true] at h; exact h.1
  have hva := valid_at hv
  obtain ⟨M, hl, k0, hk0, hz⟩ := level_at (now := now) hv l.length (Nat.le_refl _)
  have hb := hadAt_bound (now := now) hv l.length (Nat.le_refl _)
  have hhb : ∀ k : Nat, (k : Int) < n → nth (hadAt l now l.length) (k : Int) ≤ 2160000 := fun k hk => by
    have := hb _ (List.mem_of_getElem? (nth_get (l := hadAt l now l.length) (i := (k : Int)) (by omega) (by rw [hadAt_len]; omega))); omega
  have hM : great (totI n l now) = M := by
    have hk := hl k0 hk0
    have hlen := tot_len h
    refine foldl_max _ 0 M (by omega) (fun x hx => ?_) (.inr ?_)
    · obtain ⟨j, hj⟩ := List.getElem?_of_mem hx
      have hjl := (List.getElem?_eq_some_iff.1 hj).1
      have e : nth (totI n l now) (j : Int) = x := by unfold nth; rw [Int.toNat_natCast, List.getD_eq_getElem?_getD, hj]; rfl
      have := hl j (by omega)
      rw [tot_nth h (by omega)] at e
      omega
    · have e := tot_nth h hk0
      have e2 := nth_get (l := totI n l now) (i := (k0 : Int)) (by omega) (by omega)
      have e3 : nth (totI n l now) (k0 : Int) = M := by rw [e]; omega
      rw [e3] at e2
      exact List.mem_of_getElem? e2
  intro k hk
  have h1 := hl k hk
  have h2 := hl k0 hk0
  have h3 := hhb k hk
  have h4 := hhb k0 hk0
  rw [hM, tot_nth h hk, owe_nth h hk]
  omega
set_option maxHeartbeats 4000000 in
theorem levels_spec {n now : Int} {v : Value} {xs : List GArr4Int} {w0 : World} (hn : inI n) (hr : Rd fGArr4Int.ty w0 v xs) (hx : ∀ x ∈ xs, okA4 x) (hl : xs.length ≤ maxLen) (ht : inI now) :
    CallsV Try.prog 4 #[.int .i64 n, v, .int .i64 now] w0 (.bool true) := by
  have S := St.start w0
  have hcn := cntI_range n
  have hpk := pickI_range (c := now) (n := 3000000) (by omega)
  have hml := madeA_len n xs
  have hok : okA (cntI n) (madeA n xs) (pickI now 3000000) = true := okA_of (madeA_valid n xs) (by omega) (by omega)
  have he := err_of hok
  have htl := tot_len hok
  have hol := owe_len hok
  have hlv := levels_plain hok
  obtain ⟨A0, c0, rfl⟩ := hr.len
  have hn' := hn
  have ht' := ht
  unfold inI at hn' ht'
  refine CallsV.mk ?_
  refine calls_enter Try.func4 rfl (by intro _ h; first | exact nomatch h.1 | (obtain ⟨_, h, _⟩ := h; exact nomatch h)) Try.ntmps4 rfl ?_
  repeat' (first | refine WP_seq ?_ | refine WP_region ?_ | refine wl_nil ?_ | refine then_normal ?_ | refine WP_skip ?_ | refine WP_condF rfl ?_ | (refine g_move ?_; refine st_move rfl ?_) | (refine g_assign ?_; refine st_assign rfl ?_) | (refine g_un ?_; refine st_val rfl (r_not rfl) ?_) | (refine g_callV ?_; (refine st_callV rfl (r_call0 rfl) (sane_spec) ?_; intro w hb; replace S := S.grow hb; clear hb)))
  refine st_callR rfl (r_call2 rfl rfl rfl) (made_run hn (hr.mono S.below) hx hl) ?_
  rintro vl w hb hrow
  replace S := S.new hb hrow
  clear hb hrow
  generalize madeA n xs = l at *
  repeat' (first | refine WP_seq ?_ | refine WP_region ?_ | refine wl_nil ?_ | refine then_normal ?_ | (refine g_move ?_; refine st_move rfl ?_) | (refine g_assign ?_; refine st_assign rfl ?_) | (refine g_callV ?_; first | (refine st_callV rfl (r_call1 rfl rfl) (count_spec (by omega) (by omega)) ?_; intro w hb; replace S := S.grow hb; clear hb) | (refine st_callV rfl (r_call2 rfl rfl rfl) (pick_spec (by omega) (by omega) (by omega)) ?_; intro w hb; replace S := S.grow hb; clear hb)))
  refine st_callR rfl (r_call3 rfl rfl rfl rfl) (totals_is (by omega) (S.rdRow (D := fGAppearance) (i := 0) rfl) (by omega) rfl he) ?_
  rintro _ w hb ⟨vt, rfl, hrow⟩
  replace S := S.new hb hrow
  clear hb hrow
  repeat' (first | refine WP_seq ?_ | refine WP_region ?_ | refine wl_nil ?_ | refine then_normal ?_ | (refine g_move ?_; refine st_move rfl ?_) | (refine g_assign ?_; refine st_assign rfl ?_) | (refine g_extract ?_; refine st_val rfl (r_extract rfl rfl) ?_) | (refine g_callV ?_; first | (refine st_callV rfl (r_call1 rfl rfl) (count_spec (by omega) (by omega)) ?_; intro w hb; replace S := S.grow hb; clear hb) | (refine st_callV rfl (r_call2 rfl rfl rfl) (pick_spec (by omega) (by omega) (by omega)) ?_; intro w hb; replace S := S.grow hb; clear hb)))
  refine st_callR rfl (r_call3 rfl rfl rfl rfl) (owed_is (by omega) (S.rdRow (D := fGAppearance) (i := 0) rfl) (by omega) rfl he) ?_
  rintro _ w hb ⟨vo, rfl, hrow⟩
  replace S := S.new hb hrow
  clear hb hrow
  generalize totI (cntI n) l (pickI now 3000000) = tt at *
  generalize oweI (cntI n) l (pickI now 3000000) = oo at *
  obtain ⟨At, ct, hvt⟩ := (S.rdRow (D := fInt .i64) (i := 1) rfl).len
  subst hvt
  obtain ⟨Ao, co, hvo⟩ := (S.rdRow (D := fInt .i64) (i := 2) rfl).len
  subst hvo
  repeat' (first | refine WP_seq ?_ | refine WP_region ?_ | refine wl_nil ?_ | refine then_normal ?_ | refine WP_skip ?_ | refine WP_block ?_ | (refine g_move ?_; refine st_move rfl ?_) | (refine g_assign ?_; refine st_assign rfl ?_) | (refine g_pick ?_; refine st_pickF rfl rfl ?_) | (refine g_b_neq ?_; refine st_val rfl (r_neq rfl rfl) ?_) | (refine g_extract ?_; refine st_val rfl (r_extract rfl rfl) ?_) | (refine g_c_len ?_; refine st_val rfl (r_lenSlice rfl) ?_) | (refine g_callV ?_; (refine st_callV rfl (r_call1 rfl rfl) (count_spec (by omega) (by omega)) ?_; intro w hb; replace S := S.grow hb; clear hb)) | (refine wl_split rfl rfl (fun h => ?_) (fun h => ?_) <;> (fail_if_success (have hh : true = true := h)) <;> (fail_if_success (have hh : false = false := h)) <;> (try simp only [decide_eq_true_eq, decide_eq_false_iff_not, Bool.not_eq_true', Bool.not_eq_false', Int.not_lt, Int.not_le] at h) <;> (try (exfalso; omega))) | (refine WP_cond rfl (fun h => ?_) (fun h => ?_) <;> (fail_if_success (have hh : true = true := h)) <;> (fail_if_success (have hh : false = false := h)) <;> (try simp only [decide_eq_true_eq, decide_eq_false_iff_not, Bool.not_eq_true', Bool.not_eq_false', Int.not_lt, Int.not_le] at h) <;> (try (exfalso; omega))))
  refine WP_loop (fun k σ w1 => ∃ i : Nat, Has σ [(7, .bool true), (9, .slice At tt.length ct), (11, .slice Ao oo.length co), (13, .int .i64 (i : Int))] ∧ St w0 w1 [rowOb (fInt .i64) 3 (.slice At tt.length ct) tt, rowOb (fInt .i64) 3 (.slice Ao oo.length co) oo] ∧ i ≤ tt.length ∧ k = tt.length - i) tt.length ⟨0, ⟨rfl, rfl, rfl, rfl, trivial⟩, S.keep [false, true, true], by omega, by omega⟩ ?_
  clear S
  rintro k σ w1 ⟨i, hs', S, hi1, rfl⟩
  refine WP_has hs' ?_
  by_cases hi : i < tt.length
  · have hlk := hlv i (by omega)
    repeat' (first | refine WP_seq ?_ | refine WP_region ?_ | refine wl_nil ?_ | refine then_normal ?_ | refine inB_normal ?_ | refine WP_skip ?_ | refine WP_block ?_ | refine WP_draw (by kernel_rfl) (by kernel_rfl) ?_ | (refine ql_nil ?_; intro w hb; replace S := S.grow hb; clear hb) | (refine g_move ?_; refine st_move rfl ?_) | (refine g_assign ?_; refine st_assign rfl ?_) | (refine g_b_add ?_; (refine st_val rfl (r_addN rfl rfl ?_ ?_) ?_; (first | omega | (simp <;> omega)); (first | omega | (simp <;> omega)))) | (refine g_b_lss ?_; refine st_val rfl (r_lss rfl rfl) ?_) | (refine g_c_len ?_; refine st_val rfl (r_lenSlice rfl) ?_) | (refine gq_move ?_; refine q_move rfl ?_) | (refine gq_pick ?_; refine q_pickF rfl rfl ?_) | (refine gq_b_add ?_; (refine q_val rfl (fun w' hb => r_addN rfl rfl ?_ ?_) ?_; (first | omega | (simp <;> omega)); (first | omega | (simp <;> omega)))) | (refine gq_b_neq ?_; refine q_val rfl (fun w' hb => r_neq rfl rfl) ?_) | (refine gq_b_lss ?_; refine q_val rfl (fun w' hb => r_lss rfl rfl) ?_) | (refine gq_indexAddr ?_; first | (refine q_val rfl (fun w' hb => r_indexAddr ((S.grow hb).rdRow (D := fInt .i64) (i := 0) rfl) rfl rfl ?_ ?_) ?_; (first | omega | (simp <;> omega)); (first | omega | (simp <;> omega))) | (refine q_val rfl (fun w' hb => r_indexAddr ((S.grow hb).rdRow (D := fInt .i64) (i := 1) rfl) rfl rfl ?_ ?_) ?_; (first | omega | (simp <;> omega)); (first | omega | (simp <;> omega)))) | (refine gq_load ?_; first | (refine q_val rfl (fun w' hb => r_loadElem1 ((S.grow hb).rdRow (D := fInt .i64) (i := 0) rfl) rfl ?_ ?_ rfl) ?_; (first | omega | (simp <;> omega)); (first | omega | (simp <;> omega))) | (refine q_val rfl (fun w' hb => r_loadElem1 ((S.grow hb).rdRow (D := fInt .i64) (i := 1) rfl) rfl ?_ ?_ rfl) ?_; (first | omega | (simp <;> omega)); (first | omega | (simp <;> omega)))) | (refine gq_callV ?_; refine q_callV rfl (fun w' hb => r_call1 rfl rfl) (fun w' hb => greatest_spec ((S.grow hb).rdRow (D := fInt .i64) (i := 0) rfl) (by omega)) ?_) | (refine ql_split rfl rfl (fun h => ?_) (fun h => ?_) <;> (fail_if_success (have hh : true = true := h)) <;> (fail_if_success (have hh : false = false := h)) <;> (try simp only [decide_eq_true_eq, decide_eq_false_iff_not, Bool.not_eq_true', Bool.not_eq_false', Int.not_lt, Int.not_le] at h) <;> (try (exfalso; omega))) | (refine WP_cond rfl (fun h => ?_) (fun h => ?_) <;> (fail_if_success (have hh : true = true := h)) <;> (fail_if_success (have hh : false = false := h)) <;> (try simp only [decide_eq_true_eq, decide_eq_false_iff_not, Bool.not_eq_true', Bool.not_eq_false', Int.not_lt, Int.not_le] at h) <;> (try (exfalso; omega))))
    refine ⟨⟨_, ?_, i + 1, ⟨rfl, rfl, rfl, rfl, trivial⟩, S, by omega, rfl⟩⟩
    omega
  · repeat' (first | refine WP_seq ?_ | refine WP_region ?_ | refine wl_nil ?_ | refine then_normal ?_ | refine then_exit ?_ | refine inB_here ?_ | refine WP_ret ?_ | refine WP_exit ?_ | (refine g_move ?_; refine st_move rfl ?_) | (refine g_assign ?_; refine st_assign rfl ?_) | (refine g_b_lss ?_; refine st_val rfl (r_lss rfl rfl) ?_) | (refine g_c_len ?_; refine st_val rfl (r_lenSlice rfl) ?_) | (refine WP_cond rfl (fun h => ?_) (fun h => ?_) <;> (fail_if_success (have hh : true = true := h)) <;> (fail_if_success (have hh : false = false := h)) <;> (try simp only [decide_eq_true_eq, decide_eq_false_iff_not, Bool.not_eq_true', Bool.not_eq_false', Int.not_lt, Int.not_le] at h) <;> (try (exfalso; omega))))
    exact end1 rfl rfl ⟨rfl, S.below⟩
end Go.Proofs.Ytcbidfedffegpaa
