import Derived.Test.YteplelijhkmbkaaDoorLD
namespace Go.Proofs.YteplelijhkmbkaaDoor
open Go Go.Gx Go.RowKit
set_option linter.unusedVariables false
set_option linter.unusedSimpArgs false

theorem okI_of {l : List GContract} {sp : List GSpot} (h1 : validC l = true) (h2 : validP sp = true) : okI l sp = true := by unfold okI; rw [h1, h2]; rfl
theorem validP_filter {sp : List GSpot} (h : validP sp = true) (p : GSpot → Bool) : validP (sp.filter p) = true := by
  unfold validP
  rw [decide_eq_true (by have := List.length_filter_le p sp; have := validP_len h; omega), Bool.true_and, List.all_eq_true]
  exact fun x hx => List.all_eq_true.1 (Bool.and_eq_true_iff.1 h).2 x (List.mem_filter.1 hx).1
theorem take_filterS {p : GSpot → Bool} {l : List GSpot} {i : Int} (h0 : 0 ≤ i) (hi : i < l.length) : (l.take (i + 1).toNat).filter p = (l.take i.toNat).filter p ++ (if p (nth l i) then [nth l i] else []) := by
  rw [show (i + 1).toNat = i.toNat + 1 by omega, List.take_add_one, nth_get h0 hi, Option.toList_some, List.filter_append]
  congr 1
  cases h : p (nth l i) with
  | true => simp [h]
  | false => simp [h]
theorem take_filterC {p : GContract → Bool} {l : List GContract} {i : Int} (h0 : 0 ≤ i) (hi : i < l.length) : (l.take (i + 1).toNat).filter p = (l.take i.toNat).filter p ++ (if p (nth l i) then [nth l i] else []) := by
  rw [show (i + 1).toNat = i.toNat + 1 by omega, List.take_add_one, nth_get h0 hi, Option.toList_some, List.filter_append]
  congr 1
  cases h : p (nth l i) with
  | true => simp [h]
  | false => simp [h]
theorem take_filterI {p : Int → Bool} {l : List Int} {i : Int} (h0 : 0 ≤ i) (hi : i < l.length) : (l.take (i + 1).toNat).filter p = (l.take i.toNat).filter p ++ (if p (nth l i) then [nth l i] else []) := by
  rw [show (i + 1).toNat = i.toNat + 1 by omega, List.take_add_one, nth_get h0 hi, Option.toList_some, List.filter_append]
  congr 1
  cases h : p (nth l i) with
  | true => simp [h]
  | false => simp [h]
theorem keptR_is {sp : List GSpot} {out : List Int} {x : GSpot} {r : List GSpot} {n : Int} {v1 v2 : Value} {w0 : World} (h1 : spAt sp out = r) (h2 : keptN r x = n) (hr1 : Rd fGSpot.ty w0 v1 sp) (hr2 : Rd (fInt .i64).ty w0 v2 out) (hl : sp.length ≤ 1000000) (hl2 : out.length ≤ 1000000) (ho : ∀ x ∈ out, 0 ≤ x ∧ x < sp.length) :
    CallsR Tryd.prog 30 #[v1, v2, .agg x.enc.toArray] w0 (RowS w0 r n) := by
  rw [← h2, ← h1]; exact kept_run hr1 hr2 hl hl2 ho
set_option maxHeartbeats 2000000 in
theorem lawBefore_spec {vx vy : Value} {xs : List GArr8Int} {ys : List GArr2Int} {at_ : Int} {w0 : World} (hG : TblAt w0) (hr1 : Rd fGArr8Int.ty w0 vx xs) (hx : ∀ x ∈ xs, okA8 x) (hxl : xs.length ≤ maxLen) (hr2 : Rd fGArr2Int.ty w0 vy ys) (hy : ∀ y ∈ ys, okA2 y) (hyl : ys.length ≤ maxLen) (hn : inI at_) :
    CallsV Tryd.prog 8 #[vx, vy, .int .i64 at_] w0 (.bool true) := by
  have S := St.start w0
  refine CallsV.mk ?_
  refine calls_enter Tryd.func8 rfl (by intro _ h; first | exact nomatch h.1 | (obtain ⟨_, h, _⟩ := h; exact nomatch h)) Tryd.ntmps8 rfl ?_
  repeat' (first | refine WP_seq ?_ | refine WP_region ?_ | refine wl_nil ?_ | refine then_normal ?_ | refine WP_skip ?_ | refine WP_condF rfl ?_ | (refine g_move ?_; refine st_move rfl ?_) | (refine g_assign ?_; refine st_assign rfl ?_) | (refine g_un ?_; refine st_val rfl (r_not rfl) ?_) | (refine g_callV ?_; (refine st_callV rfl (r_call0 rfl) (sane_spec (hG.mono S.below)) ?_; intro w hb; replace S := S.grow hb; clear hb)))
  refine st_callR rfl (r_call1 rfl rfl) (made_run (hr1.mono S.below) hx hxl) ?_; rintro vL w hb hrow; replace S := S.new hb hrow; clear hb hrow
  obtain ⟨l, hl⟩ : ∃ l, madeL xs = l := ⟨_, rfl⟩
  have hvl : validC l = true := by rw [← hl]; exact madeL_ok xs
  have hll : l.length ≤ 8 := by rw [← hl]; exact madeL_len xs
  rw [hl] at S
  obtain ⟨AL, cL, hz⟩ := (S.rdRow (D := fGContract) (i := 0) rfl).len; subst hz
  repeat' (first | refine WP_seq ?_ | refine WP_region ?_ | refine wl_nil ?_ | refine then_normal ?_ | (refine g_move ?_; refine st_move rfl ?_) | (refine g_assign ?_; refine st_assign rfl ?_))
  refine st_callR rfl (r_call2 rfl rfl rfl) (spots_run (S.rdRow (D := fGContract) (i := 0) rfl) (hr2.mono S.below) hy (by omega) hyl) ?_; rintro vP w hb hrow; replace S := S.new hb hrow; clear hb hrow
  obtain ⟨sp, hsp⟩ : ∃ sp, spotsL l ys = sp := ⟨_, rfl⟩
  have hvp : validP sp = true := by rw [← hsp]; exact spotsL_ok hvl ys
  have hpl : sp.length ≤ 24 := by rw [← hsp]; exact spotsL_len l ys
  rw [hsp] at S
  obtain ⟨AP, cP, hz⟩ := (S.rdRow (D := fGSpot) (i := 1) rfl).len; subst hz
  have hok : okI l sp = true := by unfold okI; rw [hvl, hvp]; rfl
  replace S : St w0 w [rowOb fGContract 29 (.slice AL l.length cL) l, rowOb fGSpot 31 (.slice AP sp.length cP) sp] := S

  have rt := pickI_range (c := at_) (n := 310000) (by omega)
  obtain ⟨t, ht⟩ : ∃ t, pickI at_ 310000 = t := ⟨_, rfl⟩
  rw [ht] at rt
  repeat' (first | refine WP_seq ?_ | refine WP_region ?_ | refine wl_nil ?_ | refine then_normal ?_ | refine WP_block ?_ | (refine g_move ?_; refine st_move rfl ?_) | (refine g_assign ?_; refine st_assign rfl ?_) | (refine g_callV ?_; (refine st_callV rfl (r_call2 rfl rfl rfl) (pick_is ht hn.1 hn.2 (by omega)) ?_; intro w hb; replace S := S.grow hb; clear hb)))
  replace S := S.nilRow fGSpot 31
  refine WP_loop (fun m σ w1 => ∃ (i : Int) (ve : Value), Has σ [(7, .bool true), (8, .slice AL l.length cL), (9, .slice AP sp.length cP), (10, .int .i64 t), (11, ve), (12, .int .i64 i)] ∧ St w0 w1 [rowOb fGContract 29 (.slice AL l.length cL) l, rowOb fGSpot 31 (.slice AP sp.length cP) sp, rowOb fGSpot 31 ve ((sp.take i.toNat).filter fun s => decide (s.At < t))] ∧ 0 ≤ i ∧ i ≤ sp.length ∧ m = sp.length - i.toNat) sp.length ⟨0, _, ⟨rfl, rfl, rfl, rfl, rfl, rfl, trivial⟩, S, by omega, by omega, by omega⟩ ?_
  clear S
  rintro m σ w1 ⟨i, ve, hs, S, hi0, hi1, hm⟩
  refine WP_has hs ?_
  by_cases hi : i < sp.length
  · have hstep := take_filterS (p := fun s => decide (s.At < t)) hi0 hi
    have hlr := List.length_filter_le (fun s : GSpot => decide (s.At < t)) (sp.take i.toNat)
    rw [List.length_take] at hlr
    by_cases hc : (nth sp i).At < t
    · rw [if_pos (decide_eq_true hc)] at hstep
      repeat' (first | refine WP_seq ?_ | refine WP_region ?_ | refine wl_nil ?_ | refine then_normal ?_ | refine WP_skip ?_ | refine WP_block ?_ | (refine g_move ?_; refine st_move rfl ?_) | (refine g_b_lss ?_; refine st_val rfl (r_lss rfl rfl) ?_) | (refine g_c_len ?_; refine st_val rfl (r_lenSlice rfl) ?_) | (refine g_fieldAddr ?_; refine st_val rfl (r_fieldAddr rfl) ?_) | (refine g_indexAddr ?_; (refine st_val rfl (r_indexAddr (S.rdRow (D := fGSpot) (i := 1) rfl) rfl rfl ?_ ?_) ?_; (first | omega | (simp <;> omega)); (first | omega | (simp <;> omega)))) | (refine g_load ?_; first | (refine st_val rfl (r_loadElem (S.rdRow (D := fGSpot) (i := 1) rfl) rfl ?_ ?_) ?_; (first | omega | (simp <;> omega)); (first | omega | (simp <;> omega))) | (refine st_val rfl (r_loadElemF (S.rdRow (D := fGSpot) (i := 1) rfl) rfl ?_ ?_ rfl) ?_; (first | omega | (simp <;> omega)); (first | omega | (simp <;> omega)))) | (refine WP_cond rfl (fun h => ?_) (fun h => ?_) <;> (fail_if_success (have hh : true = true := h)) <;> (fail_if_success (have hh : false = false := h)) <;> (try simp only [decide_eq_true_eq, decide_eq_false_iff_not, Bool.not_eq_true', Bool.not_eq_false', Int.not_lt, Int.not_le] at h) <;> (try (exfalso; omega))))
      refine st_valE rfl (r_litF (D := fGSpot) [nth sp i] (fun y => .agg y.enc.toArray) S rfl rfl (fun _ => rfl) rfl (by decide) (by decide)) ?_
      rintro _ w ⟨bl, rfl, -, hcl, S'⟩; replace S := S'; clear S'
      refine st_valE rfl (r_append1 (D := fGSpot) (i := 2) (b := bl) (x := nth sp i) S rfl rfl rfl (fl_one hcl) rfl (by decide) (one_sp _) (by omega) (by omega)) ?_
      rintro ve' w ⟨-, S'⟩; replace S := S'; clear S' hcl
      repeat' (first | refine WP_region ?_ | refine wl_nil ?_ | refine then_normal ?_ | refine inB_normal ?_ | (refine g_move ?_; refine st_move rfl ?_) | (refine g_assign ?_; refine st_assign rfl ?_) | (refine g_b_add ?_; (refine st_val rfl (r_addN rfl rfl ?_ ?_) ?_; (first | omega | (simp <;> omega)); (first | omega | (simp <;> omega)))))
      refine ⟨⟨_, ?_, i + 1, ve', ⟨rfl, rfl, rfl, rfl, rfl, rfl, trivial⟩, by rw [hstep]; exact S.keep [true, true, true], by omega, by omega, rfl⟩⟩
      omega
    · rw [if_neg (by simpa using hc), List.append_nil] at hstep
      repeat' (first | refine WP_seq ?_ | refine WP_region ?_ | refine wl_nil ?_ | refine then_normal ?_ | refine inB_normal ?_ | refine WP_skip ?_ | refine WP_block ?_ | (refine g_move ?_; refine st_move rfl ?_) | (refine g_assign ?_; refine st_assign rfl ?_) | (refine g_b_add ?_; (refine st_val rfl (r_addN rfl rfl ?_ ?_) ?_; (first | omega | (simp <;> omega)); (first | omega | (simp <;> omega)))) | (refine g_b_lss ?_; refine st_val rfl (r_lss rfl rfl) ?_) | (refine g_c_len ?_; refine st_val rfl (r_lenSlice rfl) ?_) | (refine g_fieldAddr ?_; refine st_val rfl (r_fieldAddr rfl) ?_) | (refine g_indexAddr ?_; (refine st_val rfl (r_indexAddr (S.rdRow (D := fGSpot) (i := 1) rfl) rfl rfl ?_ ?_) ?_; (first | omega | (simp <;> omega)); (first | omega | (simp <;> omega)))) | (refine g_load ?_; (refine st_val rfl (r_loadElemF (S.rdRow (D := fGSpot) (i := 1) rfl) rfl ?_ ?_ rfl) ?_; (first | omega | (simp <;> omega)); (first | omega | (simp <;> omega)))) | (refine WP_cond rfl (fun h => ?_) (fun h => ?_) <;> (fail_if_success (have hh : true = true := h)) <;> (fail_if_success (have hh : false = false := h)) <;> (try simp only [decide_eq_true_eq, decide_eq_false_iff_not, Bool.not_eq_true', Bool.not_eq_false', Int.not_lt, Int.not_le] at h) <;> (try (exfalso; omega))))
      refine ⟨⟨_, ?_, i + 1, ve, ⟨rfl, rfl, rfl, rfl, rfl, rfl, trivial⟩, by rw [hstep]; exact S, by omega, by omega, rfl⟩⟩
      omega
  have hit : i.toNat = sp.length := by omega
  rw [hit, List.take_length] at S
  obtain ⟨r, hr, hrt⟩ := cntS_before l sp t
  obtain ⟨ea, hea⟩ : ∃ ea, (sp.filter fun s => decide (s.At < t)) = ea := ⟨_, rfl⟩
  rw [hea] at S hr
  have hve : validP ea = true := by rw [← hea]; exact validP_filter hvp _
  have hel : ea.length ≤ 24 := by rw [← hea]; have := List.length_filter_le (fun s : GSpot => decide (s.At < t)) sp; omega
  have hoke := okI_of hvl hve
  obtain ⟨AE, cE, hz⟩ := (S.rdRow (D := fGSpot) (i := 2) rfl).len; subst hz
  repeat' (first | refine WP_seq ?_ | refine WP_region ?_ | refine wl_nil ?_ | refine then_normal ?_ | refine then_exit ?_ | refine inB_here ?_ | refine WP_exit ?_ | (refine g_move ?_; refine st_move rfl ?_) | (refine g_b_lss ?_; refine st_val rfl (r_lss rfl rfl) ?_) | (refine g_c_len ?_; refine st_val rfl (r_lenSlice rfl) ?_) | (refine WP_cond rfl (fun h => ?_) (fun h => ?_) <;> (fail_if_success (have hh : true = true := h)) <;> (fail_if_success (have hh : false = false := h)) <;> (try simp only [decide_eq_true_eq, decide_eq_false_iff_not, Bool.not_eq_true', Bool.not_eq_false', Int.not_lt, Int.not_le] at h) <;> (try (exfalso; omega))))
  refine st_callR rfl (r_call2 rfl rfl rfl) (counted_is (counted_t hok) (S.rdRow (D := fGContract) (i := 0) rfl) (S.rdRow (D := fGSpot) (i := 1) rfl) (by omega) (by omega) (hG.mono S.below)) ?_; rintro _ w hb ⟨va, rfl, hrow⟩; replace S := S.new hb hrow; clear hb hrow
  repeat' (first | refine WP_seq ?_ | refine WP_region ?_ | refine wl_nil ?_ | refine then_normal ?_ | (refine g_move ?_; refine st_move rfl ?_) | (refine g_assign ?_; refine st_assign rfl ?_) | (refine g_extract ?_; refine st_val rfl (r_extract rfl rfl) ?_))
  refine st_callR rfl (r_call2 rfl rfl rfl) (counted_is (counted_t hoke) (S.rdRow (D := fGContract) (i := 0) rfl) (S.rdRow (D := fGSpot) (i := 2) rfl) (by omega) (by omega) (hG.mono S.below)) ?_; rintro _ w hb ⟨vb, rfl, hrow⟩; replace S := S.new hb hrow; clear hb hrow
  have hcl := cntI_len l sp
  have hcl2 := cntI_len l ea
  repeat' (first | refine WP_seq ?_ | refine WP_region ?_ | refine wl_nil ?_ | refine then_normal ?_ | (refine g_move ?_; refine st_move rfl ?_) | (refine g_assign ?_; refine st_assign rfl ?_) | (refine g_build ?_; refine st_val rfl (bd31_ ) ?_) | (refine g_extract ?_; refine st_val rfl (r_extract rfl rfl) ?_))
  refine st_callR rfl (r_call3 rfl rfl rfl rfl) (keptR_is (x := default) rfl rfl (S.rdRow (D := fGSpot) (i := 1) rfl) (S.rdRow (D := fInt .i64) (i := 3) rfl) (by omega) (by show (cntI l sp).length ≤ _; omega) (fun y hy => cntI_mem hy)) ?_; rintro _ w hb ⟨vk, rfl, hrow⟩; replace S := S.new hb hrow; clear hb hrow
  repeat' (first | refine WP_seq ?_ | refine WP_region ?_ | refine wl_nil ?_ | refine then_normal ?_ | (refine g_move ?_; refine st_move rfl ?_) | (refine g_assign ?_; refine st_assign rfl ?_) | (refine g_build ?_; refine st_val rfl (bd31_ ) ?_) | (refine g_extract ?_; refine st_val rfl (r_extract rfl rfl) ?_))
  refine st_callR rfl (r_call3 rfl rfl rfl rfl) (keptR_is (x := default) rfl rfl (S.rdRow (D := fGSpot) (i := 2) rfl) (S.rdRow (D := fInt .i64) (i := 4) rfl) (by omega) (by show (cntI l ea).length ≤ _; omega) (fun y hy => cntI_mem hy)) ?_; rintro _ w hb ⟨vm, rfl, hrow⟩; replace S := S.new hb hrow; clear hb hrow
  obtain ⟨K, hK⟩ : ∃ K, spAt sp (cntI l sp) = K := ⟨_, rfl⟩
  obtain ⟨M, hM⟩ : ∃ M, spAt ea (cntI l ea) = M := ⟨_, rfl⟩
  have hKM : K = M ++ r := by rw [← hK, ← hM]; exact hr
  have hKl : K.length ≤ 24 := by rw [← hK, spAt_len]; omega
  have hMl : M.length ≤ K.length := by rw [hKM, List.length_append]; omega
  have kn := @keptN_le K default
  have mn := @keptN_le M default
  rw [hK, hM]
  rw [hK] at S
  rw [hM] at S
  obtain ⟨AK, cK, hz⟩ := (S.rdRow (D := fGSpot) (i := 5) rfl).len; subst hz
  obtain ⟨AM, cM', hz⟩ := (S.rdRow (D := fGSpot) (i := 6) rfl).len; subst hz
  have hcut := fun w' (R : Rd fGSpot.ty w' (.slice AK K.length cK) K) => R.cut (lo := 0) (hi := ((M.length : Int)).toNat) (by omega) (by omega)
  have hpre : ((K.take ((M.length : Int)).toNat).drop 0) = M := by rw [hKM, Int.toNat_natCast, List.drop_zero, List.take_left']; rfl
  by_cases hEq : M.length = K.length
  · repeat' (first | refine WP_seq ?_ | refine WP_region ?_ | refine wl_nil ?_ | refine then_normal ?_ | refine WP_ret ?_ | refine WP_skip ?_ | (refine g_guard ?_; refine st_off rfl ?_) | (refine g_move ?_; refine st_move rfl ?_) | (refine g_assign ?_; refine st_assign rfl ?_) | (refine g_pick ?_; first | refine st_pickT rfl rfl ?_ | refine st_pickF rfl rfl ?_) | (refine g_b_eql ?_; refine st_val rfl (r_eql rfl rfl) ?_) | (refine g_b_neq ?_; refine st_val rfl (r_neq rfl rfl) ?_) | (refine g_b_lss ?_; refine st_val rfl (r_lss rfl rfl) ?_) | (refine g_b_gtr ?_; refine st_val rfl (r_gtr rfl rfl) ?_) | (refine g_extract ?_; refine st_val rfl (r_extract rfl rfl) ?_) | (refine g_c_len ?_; refine st_val rfl (r_lenSlice rfl) ?_) | (refine g_callV ?_; (refine st_callV rfl (r_call2 rfl rfl rfl) (same_is (b := true) (decide_eq_true hpre) (hcut _ (S.rdRow (D := fGSpot) (i := 5) rfl)) (S.rdRow (D := fGSpot) (i := 6) rfl) (by rw [hpre]; omega) (by omega)) ?_; intro w hb; replace S := S.grow hb; clear hb)) | (refine st_val rfl (r_sliceHi (S.rdRow (D := fGSpot) (i := 5) rfl) rfl rfl (by omega) (by omega)) ?_) | (refine wl_split rfl rfl (fun h => ?_) (fun h => ?_) <;> (fail_if_success (have hh : true = true := h)) <;> (fail_if_success (have hh : false = false := h)) <;> (try simp only [decide_eq_true_eq, decide_eq_false_iff_not, Bool.not_eq_true', Bool.not_eq_false', Int.not_lt, Int.not_le] at h) <;> (try (exfalso; omega))) | (refine WP_cond rfl (fun h => ?_) (fun h => ?_) <;> (fail_if_success (have hh : true = true := h)) <;> (fail_if_success (have hh : false = false := h)) <;> (try simp only [decide_eq_true_eq, decide_eq_false_iff_not, Bool.not_eq_true', Bool.not_eq_false', Int.not_lt, Int.not_le] at h) <;> (try (exfalso; omega))))
    all_goals exact end1 rfl rfl ⟨rfl, S.below⟩
  · have hmn : min (M.length : Int) ((K.length : Int) - 1) = (M.length : Int) := by omega
    have hle : t ≤ (nth K (min (M.length : Int) ((K.length : Int) - 1))).At := by
      rw [hmn]
      refine hrt _ ?_
      have h1 := nth_get (l := K) (i := (M.length : Int)) (by omega) (by omega)
      rw [hKM, Int.toNat_natCast, List.getElem?_append_right (Nat.le_refl _), Nat.sub_self, ← hKM] at h1
      exact List.mem_of_getElem? h1
    repeat' (first | refine WP_seq ?_ | refine WP_region ?_ | refine wl_nil ?_ | refine then_normal ?_ | refine WP_ret ?_ | refine WP_skip ?_ | (refine g_move ?_; refine st_move rfl ?_) | (refine g_assign ?_; refine st_assign rfl ?_) | (refine g_pick ?_; first | refine st_pickT rfl rfl ?_ | refine st_pickF rfl rfl ?_) | (refine g_b_sub ?_; (refine st_val rfl (r_subN rfl rfl ?_ ?_) ?_; (first | omega | (simp <;> omega)); (first | omega | (simp <;> omega)))) | (refine g_b_eql ?_; refine st_val rfl (r_eql rfl rfl) ?_) | (refine g_b_neq ?_; refine st_val rfl (r_neq rfl rfl) ?_) | (refine g_b_lss ?_; refine st_val rfl (r_lss rfl rfl) ?_) | (refine g_b_gtr ?_; refine st_val rfl (r_gtr rfl rfl) ?_) | (refine g_b_geq ?_; refine st_val rfl (r_geq rfl rfl) ?_) | (refine g_extract ?_; refine st_val rfl (r_extract rfl rfl) ?_) | (refine g_c_min ?_; refine st_val rfl (r_min2 rfl rfl) ?_) | (refine g_c_len ?_; refine st_val rfl (r_lenSlice rfl) ?_) | (refine g_fieldAddr ?_; refine st_val rfl (r_fieldAddr rfl) ?_) | (refine g_indexAddr ?_; (refine st_val rfl (r_indexAddr (S.rdRow (D := fGSpot) (i := 5) rfl) rfl rfl ?_ ?_) ?_; (first | omega | (simp <;> omega)); (first | omega | (simp <;> omega)))) | (refine g_load ?_; (refine st_val rfl (r_loadElemF (S.rdRow (D := fGSpot) (i := 5) rfl) rfl ?_ ?_ rfl) ?_; (first | omega | (simp <;> omega)); (first | omega | (simp <;> omega)))) | (refine g_callV ?_; (refine st_callV rfl (r_call2 rfl rfl rfl) (same_is (b := true) (decide_eq_true hpre) (hcut _ (S.rdRow (D := fGSpot) (i := 5) rfl)) (S.rdRow (D := fGSpot) (i := 6) rfl) (by rw [hpre]; omega) (by omega)) ?_; intro w hb; replace S := S.grow hb; clear hb)) | (refine st_val rfl (r_sliceHi (S.rdRow (D := fGSpot) (i := 5) rfl) rfl rfl (by omega) (by omega)) ?_) | (refine wl_split rfl rfl (fun h => ?_) (fun h => ?_) <;> (fail_if_success (have hh : true = true := h)) <;> (fail_if_success (have hh : false = false := h)) <;> (try simp only [decide_eq_true_eq, decide_eq_false_iff_not, Bool.not_eq_true', Bool.not_eq_false', Int.not_lt, Int.not_le] at h) <;> (try (exfalso; omega))) | (refine WP_cond rfl (fun h => ?_) (fun h => ?_) <;> (fail_if_success (have hh : true = true := h)) <;> (fail_if_success (have hh : false = false := h)) <;> (try simp only [decide_eq_true_eq, decide_eq_false_iff_not, Bool.not_eq_true', Bool.not_eq_false', Int.not_lt, Int.not_le] at h) <;> (try (exfalso; omega))))
    all_goals (refine end1 rfl rfl ⟨rb ?_, S.below⟩; first | rfl | (rw [decide_eq_true_eq]; omega))
end Go.Proofs.YteplelijhkmbkaaDoor
