import Derived.Test.YtcbidfedffegpaaO
namespace Go.Proofs.Ytcbidfedffegpaa
open Go Go.Gx Go.RowKit
set_option linter.unusedVariables false
set_option linter.unusedSimpArgs false
/-- The second of the (m-1)-th appearance that is made. -/
def atC (xs : List GArr4Int) : Nat → Int
  | 0 => 0
  | m + 1 => atC xs m + 1 + pickI (nth xs (m : Int)).a1 86400
def mkA (n : Int) (xs : List GArr4Int) (m : Nat) : GAppearance := ⟨pickI (nth xs (m : Int)).a0 (cntI n), atC xs (m + 1), 1 + pickI (nth xs (m : Int)).a2 30, 1 + pickI (nth xs (m : Int)).a3 4⟩
def madeA (n : Int) (xs : List GArr4Int) : List GAppearance := (List.range (min xs.length 20)).map (mkA n xs)
def okA4 (x : GArr4Int) : Prop := inI x.a0 ∧ inI x.a1 ∧ inI x.a2 ∧ inI x.a3
theorem atC_bound (xs : List GArr4Int) : ∀ m : Nat, (m : Int) ≤ atC xs m ∧ atC xs m ≤ 86400 * m
  | 0 => by simp [atC]
  | m + 1 => by
    have ih := atC_bound xs m
    have hp := pickI_range (c := (nth xs (m : Int)).a1) (n := 86400) (by omega)
    unfold atC; omega
theorem madeA_len (n : Int) (xs : List GArr4Int) : (madeA n xs).length = min xs.length 20 := by unfold madeA; simp
theorem madeA_nth {n : Int} {xs : List GArr4Int} {m : Nat} (h : m < (madeA n xs).length) : nth (madeA n xs) (m : Int) = mkA n xs m := by
  rw [madeA_len] at h
  unfold nth madeA; rw [Int.toNat_natCast, List.getD_eq_getElem?_getD, List.getElem?_map, List.getElem?_range h]; rfl
theorem madeA_valid (n : Int) (xs : List GArr4Int) : validA (cntI n) (madeA n xs) = true := by
  have hc := cntI_range n
  refine valid_of ⟨hc.1, by omega⟩ (by rw [madeA_len]; omega) (all_range fun j hj => ?_)
  unfold okAt
  rw [madeA_nth hj]
  have hj2 := hj
  rw [madeA_len] at hj2
  have hp0 := pickI_range (c := (nth xs (j : Int)).a0) (n := cntI n) (by omega)
  have hp1 := pickI_range (c := (nth xs (j : Int)).a1) (n := 86400) (by omega)
  have hp2 := pickI_range (c := (nth xs (j : Int)).a2) (n := 30) (by omega)
  have hp3 := pickI_range (c := (nth xs (j : Int)).a3) (n := 4) (by omega)
  have hb := atC_bound xs (j + 1)
  have hb0 := atC_bound xs j
  have hprev : prevA (madeA n xs) (j : Int) ≤ atC xs j := by
    unfold prevA
    split
    · omega
    · rename_i h0
      rw [show ((j : Int) - 1) = ((j - 1 : Nat) : Int) by omega, madeA_nth (by omega)]
      show atC xs (j - 1 + 1) ≤ _
      rw [show j - 1 + 1 = j by omega]; exact Int.le_refl _
  unfold ok1 mkA
  rw [decide_eq_true_eq]
  have hat : atC xs (j + 1) = atC xs j + 1 + pickI (nth xs (j : Int)).a1 86400 := rfl
  dsimp only
  omega
set_option maxRecDepth 20000 in
set_option maxHeartbeats 16000000 in
theorem made_run {n : Int} {v : Value} {xs : List GArr4Int} {w0 : World} (hn : inI n) (hr : Rd fGArr4Int.ty w0 v xs) (hx : ∀ x ∈ xs, okA4 x) (hl : xs.length ≤ maxLen) :
    CallsR Try.prog 11 #[.int .i64 n, v] w0 fun v' w' => NewRow fGAppearance 49 w0 w' v' (madeA n xs) := by
  have S := St.start w0
  simp only [maxLen] at hl
  have hcn := cntI_range n
  unfold inI at hn
  obtain ⟨A0, c, rfl⟩ := hr.len
  refine CallsR.mk ?_
  refine calls_enter Try.func11 rfl (by intro _ h; first | exact nomatch h.1 | (obtain ⟨_, h, _⟩ := h; exact nomatch h)) Try.ntmps11 rfl ?_
  repeat' (first | refine WP_seq ?_ | refine WP_region ?_ | refine wl_nil ?_ | refine then_normal ?_ | refine WP_block ?_ | (refine g_assign ?_; refine st_assign rfl ?_))
  refine WP_loop (fun k σ w1 => ∃ (m : Nat) (va : Value), Has σ [(0, .int .i64 n), (1, .slice A0 xs.length c), (5, va), (6, .int .i64 (atC xs m)), (7, .int .i64 (m : Int))] ∧ St w0 w1 [rowOb fGAppearance 49 va ((List.range m).map (mkA n xs))] ∧ m ≤ xs.length ∧ m ≤ 20 ∧ k = 20 - m) 20 ⟨0, _, ⟨rfl, rfl, rfl, rfl, rfl, trivial⟩, S.nilRow fGAppearance 49, by omega, by omega, by omega⟩ ?_
  clear S
  rintro k σ w1 ⟨m, va, hsl, S, hm0, hm20, rfl⟩
  refine WP_has hsl ?_
  have hab := atC_bound xs m
  by_cases hi : m < xs.length
  · by_cases hi9 : m < 20
    · have hxm := nth_get (l := xs) (i := (m : Int)) (by omega) (by omega)
      obtain ⟨x0, x1, x2, x3⟩ := hx _ (List.mem_of_getElem? hxm)
      unfold inI at x0 x1 x2 x3
      have hp0 := pickI_range (c := (nth xs (m : Int)).a0) (n := cntI n) (by omega)
      have hp1 := pickI_range (c := (nth xs (m : Int)).a1) (n := 86400) (by omega)
      have hp2 := pickI_range (c := (nth xs (m : Int)).a2) (n := 30) (by omega)
      have hp3 := pickI_range (c := (nth xs (m : Int)).a3) (n := 4) (by omega)
      repeat' (first | refine WP_seq ?_ | refine WP_region ?_ | refine wl_nil ?_ | refine then_normal ?_ | refine WP_skip ?_ | refine WP_block ?_ | refine WP_drawTail 25 (by kernel_rfl) (by decide +kernel) ?_ | (refine ql_nil ?_; intro w hb; replace S := S.grow hb; clear hb) | (refine g_move ?_; refine st_move rfl ?_) | (refine g_assign ?_; refine st_assign rfl ?_) | (refine g_pick ?_; refine st_pickT rfl rfl ?_) | (refine g_b_add ?_; (refine st_val rfl (r_addN rfl rfl ?_ ?_) ?_; (first | omega | (simp <;> omega)); (first | omega | (simp <;> omega)))) | (refine g_b_lss ?_; refine st_val rfl (r_lss rfl rfl) ?_) | (refine g_c_len ?_; refine st_val rfl (r_lenSlice rfl) ?_) | (refine g_indexAddr ?_; first | (refine st_val rfl (r_indexAddr (hr.mono S.below) rfl rfl ?_ ?_) ?_; (first | omega | (simp <;> omega)); (first | omega | (simp <;> omega))) | (refine st_val rfl (r_indexAddrArrE rfl rfl ?_ ?_) ?_; (first | omega | (simp <;> omega)); (first | omega | (simp <;> omega)))) | (refine g_load ?_; (refine st_val rfl (r_loadElemF (hr.mono S.below) rfl ?_ ?_ rfl) ?_; (first | omega | (simp <;> omega)); (first | omega | (simp <;> omega)))) | (refine g_callV ?_; (refine st_callV rfl (r_call2 rfl rfl rfl) (pickC_spec (by omega) (by omega) (by omega)) ?_; intro w hb; replace S := S.grow hb; clear hb)) | (refine gq_move ?_; refine q_move rfl ?_) | (refine gq_b_add ?_; (refine q_val rfl (fun w' hb => r_addN rfl rfl ?_ ?_) ?_; (first | omega | (simp <;> omega)); (first | omega | (simp <;> omega)))) | (refine gq_build ?_; refine q_val rfl (fun w' hb => bd49_0_1_2_3 rfl rfl rfl rfl) ?_) | (refine gq_indexAddr ?_; first | (refine q_val rfl (fun w' hb => r_indexAddr (hr.mono (S.grow hb).below) rfl rfl ?_ ?_) ?_; (first | omega | (simp <;> omega)); (first | omega | (simp <;> omega))) | (refine q_val rfl (fun w' hb => r_indexAddrArrE rfl rfl ?_ ?_) ?_; (first | omega | (simp <;> omega)); (first | omega | (simp <;> omega)))) | (refine gq_load ?_; first | (refine q_val rfl (fun w' hb => r_loadElem1 (hr.mono (S.grow hb).below) rfl ?_ ?_ rfl) ?_; (first | omega | (simp <;> omega)); (first | omega | (simp <;> omega))) | (refine q_val rfl (fun w' hb => r_loadElemF (hr.mono (S.grow hb).below) rfl ?_ ?_ rfl) ?_; (first | omega | (simp <;> omega)); (first | omega | (simp <;> omega)))) | (refine gq_callV ?_; first | refine q_callV rfl (fun w' hb => r_call1 rfl rfl) (fun w' hb => count_spec (by omega) (by omega)) ?_ | refine q_callV rfl (fun w' hb => r_call2 rfl rfl rfl) (fun w' hb => pickC_spec (by omega) (by omega) (by omega)) ?_) | (refine wl_split rfl rfl (fun h => ?_) (fun h => ?_) <;> (fail_if_success (have hh : true = true := h)) <;> (fail_if_success (have hh : false = false := h)) <;> (try simp only [decide_eq_true_eq, decide_eq_false_iff_not, Bool.not_eq_true', Bool.not_eq_false', Int.not_lt, Int.not_le] at h) <;> (try (exfalso; omega))) | (refine WP_cond rfl (fun h => ?_) (fun h => ?_) <;> (fail_if_success (have hh : true = true := h)) <;> (fail_if_success (have hh : false = false := h)) <;> (try simp only [decide_eq_true_eq, decide_eq_false_iff_not, Bool.not_eq_true', Bool.not_eq_false', Int.not_lt, Int.not_le] at h) <;> (try (exfalso; omega))))
      refine st_valE rfl (r_litF (D := fGAppearance) [mkA n xs m] (fun x => .agg x.enc.toArray) S rfl rfl (fun _ => rfl) rfl (by decide) (by decide)) ?_
      rintro _ w ⟨bl, rfl, -, -, S'⟩; replace S := S'; clear S'
      refine st_valE rfl (r_appendRd (D := fGAppearance) (i := 0) S rfl (S.rdRow (D := fGAppearance) (i := 1) rfl) rfl rfl rfl (by decide) (by intro x u hu; simp [fGAppearance, GAppearance.enc] at hu; rcases hu with rfl | rfl | rfl | rfl <;> rfl) (by simp; omega) (by simp; omega)) ?_
      rintro va' w ⟨-, S'⟩; replace S := S'.keep [true, false]; clear S'
      repeat' (first | refine WP_region ?_ | refine wl_nil ?_ | refine then_normal ?_ | refine inB_normal ?_ | (refine g_move ?_; refine st_move rfl ?_) | (refine g_assign ?_; refine st_assign rfl ?_) | (refine g_b_add ?_; (refine st_val rfl (r_addN rfl rfl ?_ ?_) ?_; (first | omega | (simp <;> omega)); (first | omega | (simp <;> omega)))))
      have er : (List.range (m + 1)).map (mkA n xs) = (List.range m).map (mkA n xs) ++ [mkA n xs m] := by rw [List.range_succ, List.map_append]; rfl
      refine ⟨⟨_, ?_, m + 1, va', ⟨rfl, rfl, rfl, rfl, rfl, trivial⟩, by rw [er]; exact S, by omega, by omega, rfl⟩⟩
      omega
    · repeat' (first | refine WP_seq ?_ | refine WP_region ?_ | refine wl_nil ?_ | refine then_normal ?_ | refine then_exit ?_ | refine inB_here ?_ | refine WP_ret ?_ | refine WP_exit ?_ | (refine g_move ?_; refine st_move rfl ?_) | (refine g_assign ?_; refine st_assign rfl ?_) | (refine g_pick ?_; refine st_pickT rfl rfl ?_) | (refine g_b_lss ?_; refine st_val rfl (r_lss rfl rfl) ?_) | (refine g_c_len ?_; refine st_val rfl (r_lenSlice rfl) ?_) | (refine wl_split rfl rfl (fun h => ?_) (fun h => ?_) <;> (fail_if_success (have hh : true = true := h)) <;> (fail_if_success (have hh : false = false := h)) <;> (try simp only [decide_eq_true_eq, decide_eq_false_iff_not, Bool.not_eq_true', Bool.not_eq_false', Int.not_lt, Int.not_le] at h) <;> (try (exfalso; omega))) | (refine WP_cond rfl (fun h => ?_) (fun h => ?_) <;> (fail_if_success (have hh : true = true := h)) <;> (fail_if_success (have hh : false = false := h)) <;> (try simp only [decide_eq_true_eq, decide_eq_false_iff_not, Bool.not_eq_true', Bool.not_eq_false', Int.not_lt, Int.not_le] at h) <;> (try (exfalso; omega))))
      have em : min xs.length 20 = m := by omega
      refine end1 rfl rfl ⟨_, rfl, S.below, ?_⟩
      unfold madeA; rw [em]; exact S.row (i := 0) rfl
  · repeat' (first | refine WP_seq ?_ | refine WP_region ?_ | refine wl_nil ?_ | refine then_normal ?_ | refine then_exit ?_ | refine inB_here ?_ | refine WP_ret ?_ | refine WP_exit ?_ | refine WP_condF rfl ?_ | (refine g_guard ?_; refine st_off rfl ?_) | (refine g_move ?_; refine st_move rfl ?_) | (refine g_assign ?_; refine st_assign rfl ?_) | (refine g_pick ?_; refine st_pickF rfl rfl ?_) | (refine g_b_lss ?_; refine st_val rfl (r_lss rfl rfl) ?_) | (refine g_c_len ?_; refine st_val rfl (r_lenSlice rfl) ?_) | (refine wl_split rfl rfl (fun h => ?_) (fun h => ?_) <;> (fail_if_success (have hh : true = true := h)) <;> (fail_if_success (have hh : false = false := h)) <;> (try simp only [decide_eq_true_eq, decide_eq_false_iff_not, Bool.not_eq_true', Bool.not_eq_false', Int.not_lt, Int.not_le] at h) <;> (try (exfalso; omega))))
    have em : min xs.length 20 = m := by omega
    refine end1 rfl rfl ⟨_, rfl, S.below, ?_⟩
    unfold madeA; rw [em]; exact S.row (i := 0) rfl
end Go.Proofs.Ytcbidfedffegpaa
