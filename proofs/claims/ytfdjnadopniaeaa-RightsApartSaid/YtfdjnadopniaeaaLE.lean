import Derived.Test.YtfdjnadopniaeaaLD
namespace Go.Proofs.Ytfdjnadopniaeaa
open Go Go.Gx Go.RowKit
open Kuhn
set_option linter.unusedVariables false
set_option linter.unusedSimpArgs false
theorem take_filter {s : List Int} {n i : Int} (hnd : s.Nodup) (hn0 : 0 ≤ n) (hn : n < s.length) (h0 : 0 ≤ i) (hi : i < s.length) :
    (s.take (i + 1).toNat).filter (fun z => decide (z ≠ nth s n)) = (s.take i.toNat).filter (fun z => decide (z ≠ nth s n)) ++ if i = n then [] else [nth s i] := by
  rw [take_nth h0 hi, List.filter_append]
  congr 1
  by_cases e : i = n
  · subst e; simp
  · rw [if_neg e, List.filter_cons_of_pos]
    · simp
    · rw [decide_eq_true_iff]
      intro h
      have a1 := nth_get h0 hi
      have a2 := nth_get hn0 hn
      rw [h] at a1
      have := (List.getElem?_inj (by omega) hnd).1 (a1.trans a2.symm)
      omega
theorem lack_false {l : List GGrant} {us : List GUse} {s : List Int} (h : lackI l us = (s, false)) : s = [] := by
  unfold lackI lackM at h
  split at h
  · split at h <;> cases h; rfl
  · cases h; rfl
set_option maxRecDepth 20000 in
set_option maxHeartbeats 16000000 in
theorem rightsLeast_spec {vx vy : Value} {xs : List GArr5Int} {ys : List GArr4Int} {which : Int} {w0 : World} (hrx : Rd fGArr5Int.ty w0 vx xs) (hx : ∀ x ∈ xs, okA5 x) (hxl : xs.length ≤ maxLen) (hry : Rd fGArr4Int.ty w0 vy ys) (hy : ∀ x ∈ ys, okA4 x) (hyl : ys.length ≤ maxLen)
    (i2 : inI which) :
    CallsV Try.prog 6 #[vx, vy, .int .i64 which] w0 (.bool true) := by
  have S := St.start w0
  unfold inI at i2
  obtain ⟨l, hl⟩ : ∃ l, madeG xs = l := ⟨_, rfl⟩
  obtain ⟨us, hu⟩ : ∃ us, madeU ys = us := ⟨_, rfl⟩
  have vl := madeG_ok xs
  have vu := madeU_ok ys
  have ll := madeG_len xs
  have lu := madeU_len ys
  rw [hl] at vl ll
  rw [hu] at vu lu
  obtain ⟨s, hq1⟩ : ∃ q, (lackI l us).1 = q := ⟨_, rfl⟩
  obtain ⟨b, hq2⟩ : ∃ q, (lackI l us).2 = q := ⟨_, rfl⟩
  have hq : lackI l us = (s, b) := Prod.ext hq1 hq2
  refine CallsV.mk ?_
  refine calls_enter Try.func6 rfl (by intro _ h; first | exact nomatch h.1 | (obtain ⟨_, h, _⟩ := h; exact nomatch h)) Try.ntmps6 rfl ?_
  repeat' (first | refine WP_seq ?_ | refine WP_region ?_ | refine wl_nil ?_ | refine then_normal ?_ | refine WP_skip ?_ | refine WP_condF rfl ?_ | (refine g_move ?_; refine st_move rfl ?_) | (refine g_assign ?_; refine st_assign rfl ?_) | (refine g_un ?_; refine st_val rfl (r_not rfl) ?_) | (refine g_callV ?_; (refine st_callV rfl (r_call0 rfl) (sane_spec) ?_; intro w hb; replace S := S.grow hb; clear hb)))
  refine st_callR rfl (r_call1 rfl rfl) (made_run (hrx.mono S.below) hx hxl) ?_; rintro vL w hb hrow; replace S := S.new hb hrow; clear hb hrow
  repeat' (first | refine WP_seq ?_ | refine WP_region ?_ | refine wl_nil ?_ | refine then_normal ?_ | (refine g_move ?_; refine st_move rfl ?_) | (refine g_assign ?_; refine st_assign rfl ?_))
  refine st_callR rfl (r_call1 rfl rfl) (madeUses_run (hry.mono S.below) hy hyl) ?_; rintro vU w hb hrow; replace S := S.new hb hrow; clear hb hrow
  rw [hl, hu] at S
  obtain ⟨AU, cU, hz⟩ := (S.rdRow (D := fGUse) (i := 1) rfl).len; subst hz
  repeat' (first | refine WP_seq ?_ | refine WP_region ?_ | refine wl_nil ?_ | refine then_normal ?_ | (refine g_move ?_; refine st_move rfl ?_) | (refine g_assign ?_; refine st_assign rfl ?_))
  refine st_callR rfl (r_call2 rfl rfl rfl) (lack_run (S.rdRow (D := fGGrant) (i := 0) rfl) (S.rdRow (D := fGUse) (i := 1) rfl) (by omega) (by omega)) ?_; rintro v w hb ⟨vS, rfl, hrow⟩; replace S := S.new hb hrow; clear hb hrow
  rw [hq1] at S
  rw [hq2]
  obtain ⟨AS, cS, hz⟩ := (S.rdRow (D := fInt .i64) (i := 2) rfl).len; subst hz
  cases b with
  | false =>
    have hs := lack_false hq
    subst hs
    repeat' (first | refine WP_seq ?_ | refine WP_region ?_ | refine wl_nil ?_ | refine then_normal ?_ | refine then_ret ?_ | refine WP_ret ?_ | refine WP_condT rfl ?_ | (refine g_move ?_; refine st_move rfl ?_) | (refine g_assign ?_; refine st_assign rfl ?_) | (refine g_b_eql ?_; refine st_val rfl (r_eql rfl rfl) ?_) | (refine g_un ?_; refine st_val rfl (r_not rfl) ?_) | (refine g_extract ?_; refine st_val rfl (r_extract rfl rfl) ?_) | (refine g_c_len ?_; refine st_val rfl (r_lenSlice rfl) ?_))
    exact end1 rfl rfl ⟨rfl, S.below⟩
  | true =>
    obtain ⟨h0, h1, hnd, hr, ha, hf⟩ := lack_sel vl vu hq
    obtain ⟨n, hn⟩ : ∃ z, pickI which s.length = z := ⟨_, rfl⟩
    have rn := pickI_range (c := which) (n := s.length) (by omega)
    rw [hn] at rn
    have hfn := hf _ (nth_mem rn.1 (by omega))
    have hS : St w0 w [rowOb fGGrant 52 vL l, rowOb fGUse 46 (.slice AU us.length cU) us, rowOb (fInt .i64) 3 (.slice AS s.length cS) s] := S
    clear S; have S := hS; clear hS
    repeat' (first | refine WP_seq ?_ | refine WP_region ?_ | refine wl_nil ?_ | refine then_normal ?_ | refine WP_skip ?_ | refine WP_block ?_ | refine WP_condF rfl ?_ | (refine g_move ?_; refine st_move rfl ?_) | (refine g_assign ?_; refine st_assign rfl ?_) | (refine g_b_eql ?_; refine st_val rfl (r_eql rfl rfl) ?_) | (refine g_un ?_; refine st_val rfl (r_not rfl) ?_) | (refine g_extract ?_; refine st_val rfl (r_extract rfl rfl) ?_) | (refine g_c_len ?_; refine st_val rfl (r_lenSlice rfl) ?_) | (refine g_callV ?_; (refine st_callV rfl (r_call2 rfl rfl rfl) (pick_is hn (by omega) (by omega) (by omega)) ?_; intro w hb; replace S := S.grow hb; clear hb)) | (refine WP_cond rfl (fun h => ?_) (fun h => ?_) <;> (fail_if_success (have hh : true = true := h)) <;> (fail_if_success (have hh : false = false := h)) <;> (try simp only [decide_eq_true_eq, decide_eq_false_iff_not, Bool.not_eq_true', Bool.not_eq_false', Int.not_lt, Int.not_le] at h) <;> (try (exfalso; omega))))
    refine WP_loop (fun k σ w1 => ∃ (i : Int) (va vs : Value), Has σ [(8, vL), (9, .slice AU us.length cU), (10, .slice AS s.length cS), (12, .int .i64 n), (13, va), (14, vs), (15, .int .i64 i)] ∧ St w0 w1 [rowOb fGGrant 52 vL l, rowOb fGUse 46 (.slice AU us.length cU) us, rowOb (fInt .i64) 3 (.slice AS s.length cS) s, rowOb fGUse 46 va (selL us (s.take i.toNat)), rowOb fGUse 46 vs (selL us ((s.take i.toNat).filter fun z => decide (z ≠ nth s n)))] ∧ 0 ≤ i ∧ i ≤ s.length ∧ k = s.length - i.toNat) s.length ⟨0, _, _, ⟨rfl, rfl, rfl, rfl, rfl, rfl, rfl, trivial⟩, ?_, by omega, by omega, by omega⟩ ?_
    · exact (S.nilRow fGUse 46).nilRow fGUse 46
    clear S
    rintro k σ w1 ⟨i, va, vs, hsl, S, hi0, hi1, rfl⟩
    refine WP_has hsl ?_
    by_cases hi : i < s.length
    · have hx2 := hr _ (nth_mem hi0 hi)
      have hpos : ¬ nth s i < 0 := by omega
      have ef := take_filter hnd rn.1 (by omega) hi0 hi
      have ea := take_nth hi0 hi
      have q1 : (selL us (s.take i.toNat)).length ≤ 7 := by rw [selL_len, List.length_take]; omega
      have q2 : (selL us ((s.take i.toNat).filter fun z => decide (z ≠ nth s n))).length ≤ 7 := by rw [selL_len]; exact Nat.le_trans (List.length_filter_le _ _) (by rw [List.length_take]; omega)
      have e1 : selL us (s.take i.toNat) ++ [nth us (nth s i)] = selL us (s.take (i + 1).toNat) := by rw [ea]; simp [selL]
      repeat' (first | refine WP_seq ?_ | refine WP_region ?_ | refine wl_nil ?_ | refine then_normal ?_ | (refine g_move ?_; refine st_move rfl ?_) | (refine g_b_lss ?_; refine st_val rfl (r_lss rfl rfl) ?_) | (refine g_c_len ?_; refine st_val rfl (r_lenSlice rfl) ?_))
      refine WP_cond rfl (fun _ => ?_) (fun h => absurd (of_decide_eq_false h) (by omega))
      repeat' (first | refine WP_seq ?_ | refine WP_region ?_ | refine wl_nil ?_ | refine then_normal ?_ | refine WP_skip ?_ | refine WP_block ?_ | (refine g_move ?_; refine st_move rfl ?_) | (refine g_pick ?_; refine st_pickF rfl rfl ?_) | (refine g_b_lss ?_; refine st_val rfl (r_lss rfl rfl) ?_) | (refine g_b_geq ?_; refine st_val rfl (r_geq rfl rfl) ?_) | (refine g_c_len ?_; refine st_val rfl (r_lenSlice rfl) ?_) | (refine g_indexAddr ?_; first | (refine st_val rfl (r_indexAddr (S.rdRow (D := fInt .i64) (i := 2) rfl) rfl rfl ?_ ?_) ?_; (first | omega | (simp <;> omega)); (first | omega | (simp <;> omega))) | (refine st_val rfl (r_indexAddr (S.rdRow (D := fGUse) (i := 1) rfl) rfl rfl ?_ ?_) ?_; (first | omega | (simp <;> omega)); (first | omega | (simp <;> omega)))) | (refine g_load ?_; first | (refine st_val rfl (r_loadElem1 (S.rdRow (D := fInt .i64) (i := 2) rfl) rfl ?_ ?_ rfl) ?_; (first | omega | (simp <;> omega)); (first | omega | (simp <;> omega))) | (refine st_val rfl (r_loadElem (S.rdRow (D := fGUse) (i := 1) rfl) rfl ?_ ?_) ?_; (first | omega | (simp <;> omega)); (first | omega | (simp <;> omega)))) | (refine wl_split rfl rfl (fun h => ?_) (fun h => ?_) <;> (fail_if_success (have hh : true = true := h)) <;> (fail_if_success (have hh : false = false := h)) <;> (try simp only [decide_eq_true_eq, decide_eq_false_iff_not, Bool.not_eq_true', Bool.not_eq_false', Int.not_lt, Int.not_le] at h) <;> (try (exfalso; omega))) | (refine WP_cond rfl (fun h => ?_) (fun h => ?_) <;> (fail_if_success (have hh : true = true := h)) <;> (fail_if_success (have hh : false = false := h)) <;> (try simp only [decide_eq_true_eq, decide_eq_false_iff_not, Bool.not_eq_true', Bool.not_eq_false', Int.not_lt, Int.not_le] at h) <;> (try (exfalso; omega))))
      refine st_valE rfl (r_litF (D := fGUse) [nth us (nth s i)] (fun x => .agg x.enc.toArray) S rfl rfl (fun _ => rfl) rfl (by decide) (by decide)) ?_
      rintro _ w ⟨bl, rfl, -, -, S'⟩; replace S := S'; clear S'
      refine st_valE rfl (r_appendRd (D := fGUse) (i := 3) S rfl (S.rdRow (D := fGUse) (i := 5) rfl) rfl rfl rfl (by decide) oneU (by rw [List.length_singleton]; omega) (by rw [List.length_singleton]; omega)) ?_
      rintro va' w ⟨-, S'⟩; clear S
      have S : St w0 w [rowOb fGGrant 52 vL l, rowOb fGUse 46 (.slice AU us.length cU) us, rowOb (fInt .i64) 3 (.slice AS s.length cS) s, rowOb fGUse 46 va' (selL us (s.take i.toNat) ++ [nth us (nth s i)]), rowOb fGUse 46 vs (selL us ((s.take i.toNat).filter fun z => decide (z ≠ nth s n)))] := S'.keep [true, true, true, true, true, false]
      clear S'
      rw [e1] at S
      by_cases hin : i = n
      · rw [if_pos hin, List.append_nil] at ef
        have e2 : selL us ((s.take i.toNat).filter fun z => decide (z ≠ nth s n)) = selL us ((s.take (i + 1).toNat).filter fun z => decide (z ≠ nth s n)) := by rw [ef]
        rw [e2] at S
        repeat' (first | refine WP_seq ?_ | refine WP_region ?_ | refine wl_nil ?_ | refine then_normal ?_ | refine inB_normal ?_ | refine WP_skip ?_ | (refine g_move ?_; refine st_move rfl ?_) | (refine g_assign ?_; refine st_assign rfl ?_) | (refine g_b_add ?_; (refine st_val rfl (r_addN rfl rfl ?_ ?_) ?_; (first | omega | (simp <;> omega)); (first | omega | (simp <;> omega)))) | (refine g_b_neq ?_; refine st_val rfl (r_neq rfl rfl) ?_) | (refine WP_cond rfl (fun h => ?_) (fun h => ?_) <;> (fail_if_success (have hh : true = true := h)) <;> (fail_if_success (have hh : false = false := h)) <;> (try simp only [decide_eq_true_eq, decide_eq_false_iff_not, Bool.not_eq_true', Bool.not_eq_false', Int.not_lt, Int.not_le] at h) <;> (try (exfalso; omega))))
        refine nextI.mk ⟨_, ?_, i + 1, va', vs, ⟨rfl, rfl, rfl, rfl, rfl, rfl, rfl, trivial⟩, S, by omega, by omega, rfl⟩
        omega
      · rw [if_neg hin] at ef
        have e2 : selL us ((s.take i.toNat).filter fun z => decide (z ≠ nth s n)) ++ [nth us (nth s i)] = selL us ((s.take (i + 1).toNat).filter fun z => decide (z ≠ nth s n)) := by rw [ef]; simp [selL]
        repeat' (first | refine WP_seq ?_ | refine WP_region ?_ | refine wl_nil ?_ | refine then_normal ?_ | (refine g_move ?_; refine st_move rfl ?_) | (refine g_assign ?_; refine st_assign rfl ?_) | (refine g_b_neq ?_; refine st_val rfl (r_neq rfl rfl) ?_) | (refine g_indexAddr ?_; first | (refine st_val rfl (r_indexAddr (S.rdRow (D := fInt .i64) (i := 2) rfl) rfl rfl ?_ ?_) ?_; (first | omega | (simp <;> omega)); (first | omega | (simp <;> omega))) | (refine st_val rfl (r_indexAddr (S.rdRow (D := fGUse) (i := 1) rfl) rfl rfl ?_ ?_) ?_; (first | omega | (simp <;> omega)); (first | omega | (simp <;> omega)))) | (refine g_load ?_; first | (refine st_val rfl (r_loadElem1 (S.rdRow (D := fInt .i64) (i := 2) rfl) rfl ?_ ?_ rfl) ?_; (first | omega | (simp <;> omega)); (first | omega | (simp <;> omega))) | (refine st_val rfl (r_loadElem (S.rdRow (D := fGUse) (i := 1) rfl) rfl ?_ ?_) ?_; (first | omega | (simp <;> omega)); (first | omega | (simp <;> omega)))) | (refine WP_cond rfl (fun h => ?_) (fun h => ?_) <;> (fail_if_success (have hh : true = true := h)) <;> (fail_if_success (have hh : false = false := h)) <;> (try simp only [decide_eq_true_eq, decide_eq_false_iff_not, Bool.not_eq_true', Bool.not_eq_false', Int.not_lt, Int.not_le] at h) <;> (try (exfalso; omega))))
        refine st_valE rfl (r_litF (D := fGUse) [nth us (nth s i)] (fun x => .agg x.enc.toArray) S rfl rfl (fun _ => rfl) rfl (by decide) (by decide)) ?_
        rintro _ w ⟨bl, rfl, -, -, S'⟩; replace S := S'; clear S'
        refine st_valE rfl (r_appendRd (D := fGUse) (i := 4) S rfl (S.rdRow (D := fGUse) (i := 5) rfl) rfl rfl rfl (by decide) oneU (by rw [List.length_singleton]; omega) (by rw [List.length_singleton]; omega)) ?_
        rintro vb' w ⟨-, S'⟩; clear S
        have S : St w0 w [rowOb fGGrant 52 vL l, rowOb fGUse 46 (.slice AU us.length cU) us, rowOb (fInt .i64) 3 (.slice AS s.length cS) s, rowOb fGUse 46 va' (selL us (s.take (i + 1).toNat)), rowOb fGUse 46 vb' (selL us ((s.take i.toNat).filter fun z => decide (z ≠ nth s n)) ++ [nth us (nth s i)])] := S'.keep [true, true, true, true, true, false]
        clear S'
        rw [e2] at S
        repeat' (first | refine WP_region ?_ | refine wl_nil ?_ | refine then_normal ?_ | refine inB_normal ?_ | (refine g_move ?_; refine st_move rfl ?_) | (refine g_assign ?_; refine st_assign rfl ?_) | (refine g_b_add ?_; (refine st_val rfl (r_addN rfl rfl ?_ ?_) ?_; (first | omega | (simp <;> omega)); (first | omega | (simp <;> omega)))))
        refine nextI.mk ⟨_, ?_, i + 1, va', vb', ⟨rfl, rfl, rfl, rfl, rfl, rfl, rfl, trivial⟩, S, by omega, by omega, rfl⟩
        omega
    · repeat' (first | refine WP_seq ?_ | refine WP_region ?_ | refine wl_nil ?_ | refine then_normal ?_ | refine then_exit ?_ | refine inB_here ?_ | refine WP_exit ?_ | (refine g_move ?_; refine st_move rfl ?_) | (refine g_b_lss ?_; refine st_val rfl (r_lss rfl rfl) ?_) | (refine g_c_len ?_; refine st_val rfl (r_lenSlice rfl) ?_) | (refine WP_cond rfl (fun h => ?_) (fun h => ?_) <;> (fail_if_success (have hh : true = true := h)) <;> (fail_if_success (have hh : false = false := h)) <;> (try simp only [decide_eq_true_eq, decide_eq_false_iff_not, Bool.not_eq_true', Bool.not_eq_false', Int.not_lt, Int.not_le] at h) <;> (try (exfalso; omega))))
      refine st_callR rfl (r_call2 rfl rfl rfl) (assign_run (S.rdRow (D := fGGrant) (i := 0) rfl) (S.rdRow (D := fGUse) (i := 3) rfl) (by omega) (by simp [selL]; omega)) ?_; rintro v w hb ⟨v1, rfl, hrow⟩; replace S := S.new hb hrow; clear hb hrow
      repeat' (first | refine WP_seq ?_ | refine WP_region ?_ | refine wl_nil ?_ | refine then_normal ?_ | (refine g_move ?_; refine st_move rfl ?_) | (refine g_assign ?_; refine st_assign rfl ?_) | (refine g_extract ?_; refine st_val rfl (r_extract rfl rfl) ?_))
      refine st_callR rfl (r_call2 rfl rfl rfl) (assign_run (S.rdRow (D := fGGrant) (i := 0) rfl) (S.rdRow (D := fGUse) (i := 4) rfl) (by omega) (by rw [selL_len]; exact Nat.le_trans (List.length_filter_le _ _) (by rw [List.length_take]; omega))) ?_; rintro v w hb ⟨v2, rfl, hrow⟩; replace S := S.new hb hrow; clear hb hrow
      have ei : s.take i.toNat = s := List.take_of_length_le (by omega)
      rw [ei] at S ⊢
      rw [hfn, ha]
      repeat' (first | refine WP_seq ?_ | refine WP_region ?_ | refine wl_nil ?_ | refine then_normal ?_ | refine WP_ret ?_ | (refine g_move ?_; refine st_move rfl ?_) | (refine g_assign ?_; refine st_assign rfl ?_) | (refine g_pick ?_; refine st_pickT rfl rfl ?_) | (refine g_b_eql ?_; refine st_val rfl (r_eql rfl rfl) ?_) | (refine g_extract ?_; refine st_val rfl (r_extract rfl rfl) ?_))
      exact end1 rfl rfl ⟨rfl, S.below⟩
end Go.Proofs.Ytfdjnadopniaeaa
