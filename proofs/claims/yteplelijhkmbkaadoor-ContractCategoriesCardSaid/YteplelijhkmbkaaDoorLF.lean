import Derived.Test.YteplelijhkmbkaaDoorLE
namespace Go.Proofs.YteplelijhkmbkaaDoor
open Go Go.Gx Go.RowKit
set_option linter.unusedVariables false
set_option linter.unusedSimpArgs false

set_option maxHeartbeats 2000000 in
theorem lawCategories_spec {vx vy : Value} {xs : List GArr8Int} {ys : List GArr2Int} {cat : Int} {w0 : World} (hG : TblAt w0) (hr1 : Rd fGArr8Int.ty w0 vx xs) (hx : ∀ x ∈ xs, okA8 x) (hxl : xs.length ≤ maxLen) (hr2 : Rd fGArr2Int.ty w0 vy ys) (hy : ∀ y ∈ ys, okA2 y) (hyl : ys.length ≤ maxLen) (hn : inI cat) :
    CallsV Tryd.prog 10 #[vx, vy, .int .i64 cat] w0 (.bool true) := by
  have S := St.start w0
  refine CallsV.mk ?_
  refine calls_enter Tryd.func10 rfl (by intro _ h; first | exact nomatch h.1 | (obtain ⟨_, h, _⟩ := h; exact nomatch h)) Tryd.ntmps10 rfl ?_
  repeat' (first | refine WP_seq ?_ | refine WP_region ?_ | refine wl_nil ?_ | refine then_normal ?_ | refine WP_skip ?_ | refine WP_condF rfl ?_ | (refine g_move ?_; refine st_move rfl ?_) | (refine g_assign ?_; refine st_assign rfl ?_) | (refine g_un ?_; refine st_val rfl (r_not rfl) ?_) | (refine g_callV ?_; (refine st_callV rfl (r_call0 rfl) (sane_spec (hG.mono S.below)) ?_; intro w hb; replace S := S.grow hb; clear hb)))
  refine st_callR rfl (r_call1 rfl rfl) (made_run (hr1.mono S.below) hx hxl) ?_; rintro vL w hb hrow; replace S := S.new hb hrow; clear hb hrow
  obtain ⟨l, hl⟩ : ∃ l, madeL xs = l := ⟨_, rfl⟩
  have hvl : validC l = true := by rw [← hl]; exact madeL_ok xs
  have hll : l.length ≤ 8 := by rw [← hl]; exact madeL_len xs
  rw [hl] at S
  obtain ⟨AL, cL, hz⟩ := (S.rdRow (D := fGContract) (i := 0) rfl).len; subst hz
  repeat' (first | refine WP_seq ?_ | refine WP_region ?_ | refine wl_nil ?_ | refine then_normal ?_ | (refine g_move ?_; refine st_move rfl ?_) | (refine g_assign ?_; refine st_assign rfl ?_))
  refine st_callR rfl (r_call2 rfl rfl rfl) (spots_run (S.rdRow (D := fGContract) (i := 0) rfl) (hr2.mono S.below) hy (by omega) hyl) ?_; rintro vP w hb hrow; replace S := S.new hb hrow; clear hb hrow
  obtain ⟨sp, hsp⟩ : ∃ sp, spotsL l ys = sp := ⟨_, rfl⟩
  have hvp : validP sp = true := by rw [← hsp]; exact spotsL_ok hvl ys
  have hpl : sp.length ≤ 24 := by rw [← hsp]; exact spotsL_len l ys
  rw [hsp] at S
  obtain ⟨AP, cP, hz⟩ := (S.rdRow (D := fGSpot) (i := 1) rfl).len; subst hz
  have hok : okI l sp = true := by unfold okI; rw [hvl, hvp]; rfl
  replace S : St w0 w [rowOb fGContract 29 (.slice AL l.length cL) l, rowOb fGSpot 31 (.slice AP sp.length cP) sp] := S

  obtain ⟨k, hk⟩ : ∃ k, pickI cat 3 = k := ⟨_, rfl⟩
  repeat' (first | refine WP_seq ?_ | refine WP_region ?_ | refine wl_nil ?_ | refine then_normal ?_ | refine WP_block ?_ | (refine g_move ?_; refine st_move rfl ?_) | (refine g_assign ?_; refine st_assign rfl ?_) | (refine g_callV ?_; (refine st_callV rfl (r_call2 rfl rfl rfl) (pick_is hk hn.1 hn.2 (by omega)) ?_; intro w hb; replace S := S.grow hb; clear hb)))
  replace S := S.nilRow fGContract 29
  refine WP_loop (fun m σ w1 => ∃ (i : Int) (ve : Value), Has σ [(7, .bool true), (8, .slice AL l.length cL), (9, .slice AP sp.length cP), (10, .int .i64 k), (11, ve), (12, .int .i64 i)] ∧ St w0 w1 [rowOb fGContract 29 (.slice AL l.length cL) l, rowOb fGSpot 31 (.slice AP sp.length cP) sp, rowOb fGContract 29 ve ((l.take i.toNat).filter fun c => decide (c.Category = k))] ∧ 0 ≤ i ∧ i ≤ l.length ∧ m = l.length - i.toNat) l.length ⟨0, _, ⟨rfl, rfl, rfl, rfl, rfl, rfl, trivial⟩, S, by omega, by omega, by omega⟩ ?_
  clear S
  rintro m σ w1 ⟨i, ve, hs, S, hi0, hi1, hm⟩
  refine WP_has hs ?_
  by_cases hi : i < l.length
  · have hstep := take_filterC (p := fun c => decide (c.Category = k)) hi0 hi
    have hlr := List.length_filter_le (fun c : GContract => decide (c.Category = k)) (l.take i.toNat)
    rw [List.length_take] at hlr
    by_cases hc : (nth l i).Category = k
    · rw [if_pos (decide_eq_true hc)] at hstep
      repeat' (first | refine WP_seq ?_ | refine WP_region ?_ | refine wl_nil ?_ | refine then_normal ?_ | refine WP_skip ?_ | refine WP_block ?_ | (refine g_move ?_; refine st_move rfl ?_) | (refine g_b_eql ?_; refine st_val rfl (r_eql rfl rfl) ?_) | (refine g_b_lss ?_; refine st_val rfl (r_lss rfl rfl) ?_) | (refine g_c_len ?_; refine st_val rfl (r_lenSlice rfl) ?_) | (refine g_fieldAddr ?_; refine st_val rfl (r_fieldAddr rfl) ?_) | (refine g_indexAddr ?_; (refine st_val rfl (r_indexAddr (S.rdRow (D := fGContract) (i := 0) rfl) rfl rfl ?_ ?_) ?_; (first | omega | (simp <;> omega)); (first | omega | (simp <;> omega)))) | (refine g_load ?_; first | (refine st_val rfl (r_loadElem (S.rdRow (D := fGContract) (i := 0) rfl) rfl ?_ ?_) ?_; (first | omega | (simp <;> omega)); (first | omega | (simp <;> omega))) | (refine st_val rfl (r_loadElemF (S.rdRow (D := fGContract) (i := 0) rfl) rfl ?_ ?_ rfl) ?_; (first | omega | (simp <;> omega)); (first | omega | (simp <;> omega)))) | (refine WP_cond rfl (fun h => ?_) (fun h => ?_) <;> (fail_if_success (have hh : true = true := h)) <;> (fail_if_success (have hh : false = false := h)) <;> (try simp only [decide_eq_true_eq, decide_eq_false_iff_not, Bool.not_eq_true', Bool.not_eq_false', Int.not_lt, Int.not_le] at h) <;> (try (exfalso; omega))))
      refine st_valE rfl (r_litF (D := fGContract) [nth l i] (fun y => .agg y.enc.toArray) S rfl rfl (fun _ => rfl) rfl (by decide) (by decide)) ?_
      rintro _ w ⟨bl, rfl, -, hcl, S'⟩; replace S := S'; clear S'
      refine st_valE rfl (r_append1 (D := fGContract) (i := 2) (b := bl) (x := nth l i) S rfl rfl rfl (fl_one hcl) rfl (by decide) (of_decide_eq_true rfl) (by omega) (by omega)) ?_
      rintro ve' w ⟨-, S'⟩; replace S := S'; clear S' hcl
      repeat' (first | refine WP_region ?_ | refine wl_nil ?_ | refine then_normal ?_ | refine inB_normal ?_ | (refine g_move ?_; refine st_move rfl ?_) | (refine g_assign ?_; refine st_assign rfl ?_) | (refine g_b_add ?_; (refine st_val rfl (r_addN rfl rfl ?_ ?_) ?_; (first | omega | (simp <;> omega)); (first | omega | (simp <;> omega)))))
      refine ⟨⟨_, ?_, i + 1, ve', ⟨rfl, rfl, rfl, rfl, rfl, rfl, trivial⟩, by rw [hstep]; exact S.keep [true, true, true], by omega, by omega, rfl⟩⟩
      omega
    · rw [if_neg (by simpa using hc), List.append_nil] at hstep
      repeat' (first | refine WP_seq ?_ | refine WP_region ?_ | refine wl_nil ?_ | refine then_normal ?_ | refine inB_normal ?_ | refine WP_skip ?_ | refine WP_block ?_ | (refine g_move ?_; refine st_move rfl ?_) | (refine g_assign ?_; refine st_assign rfl ?_) | (refine g_b_add ?_; (refine st_val rfl (r_addN rfl rfl ?_ ?_) ?_; (first | omega | (simp <;> omega)); (first | omega | (simp <;> omega)))) | (refine g_b_eql ?_; refine st_val rfl (r_eql rfl rfl) ?_) | (refine g_b_lss ?_; refine st_val rfl (r_lss rfl rfl) ?_) | (refine g_c_len ?_; refine st_val rfl (r_lenSlice rfl) ?_) | (refine g_fieldAddr ?_; refine st_val rfl (r_fieldAddr rfl) ?_) | (refine g_indexAddr ?_; (refine st_val rfl (r_indexAddr (S.rdRow (D := fGContract) (i := 0) rfl) rfl rfl ?_ ?_) ?_; (first | omega | (simp <;> omega)); (first | omega | (simp <;> omega)))) | (refine g_load ?_; (refine st_val rfl (r_loadElemF (S.rdRow (D := fGContract) (i := 0) rfl) rfl ?_ ?_ rfl) ?_; (first | omega | (simp <;> omega)); (first | omega | (simp <;> omega)))) | (refine WP_cond rfl (fun h => ?_) (fun h => ?_) <;> (fail_if_success (have hh : true = true := h)) <;> (fail_if_success (have hh : false = false := h)) <;> (try simp only [decide_eq_true_eq, decide_eq_false_iff_not, Bool.not_eq_true', Bool.not_eq_false', Int.not_lt, Int.not_le] at h) <;> (try (exfalso; omega))))
      refine ⟨⟨_, ?_, i + 1, ve, ⟨rfl, rfl, rfl, rfl, rfl, rfl, trivial⟩, by rw [hstep]; exact S, by omega, by omega, rfl⟩⟩
      omega
  have hit : i.toNat = l.length := by omega
  rw [hit, List.take_length] at S
  have hcat := cntI_cat (sp := sp) (k := k) hvl
  obtain ⟨few, hfew⟩ : ∃ few, (l.filter fun c => decide (c.Category = k)) = few := ⟨_, rfl⟩
  rw [hfew] at S hcat
  have hvf : validC few = true := by rw [← hfew]; exact valid_filter hvl _
  have hfl : few.length ≤ 8 := by rw [← hfew]; have := List.length_filter_le (fun c : GContract => decide (c.Category = k)) l; omega
  have hokf := okI_of hvf hvp
  obtain ⟨AE, cE, hz⟩ := (S.rdRow (D := fGContract) (i := 2) rfl).len; subst hz
  repeat' (first | refine WP_seq ?_ | refine WP_region ?_ | refine wl_nil ?_ | refine then_normal ?_ | refine then_exit ?_ | refine inB_here ?_ | refine WP_exit ?_ | (refine g_move ?_; refine st_move rfl ?_) | (refine g_b_lss ?_; refine st_val rfl (r_lss rfl rfl) ?_) | (refine g_c_len ?_; refine st_val rfl (r_lenSlice rfl) ?_) | (refine WP_cond rfl (fun h => ?_) (fun h => ?_) <;> (fail_if_success (have hh : true = true := h)) <;> (fail_if_success (have hh : false = false := h)) <;> (try simp only [decide_eq_true_eq, decide_eq_false_iff_not, Bool.not_eq_true', Bool.not_eq_false', Int.not_lt, Int.not_le] at h) <;> (try (exfalso; omega))))
  refine st_callR rfl (r_call2 rfl rfl rfl) (counted_is (counted_t hok) (S.rdRow (D := fGContract) (i := 0) rfl) (S.rdRow (D := fGSpot) (i := 1) rfl) (by omega) (by omega) (hG.mono S.below)) ?_; rintro _ w hb ⟨va, rfl, hrow⟩; replace S := S.new hb hrow; clear hb hrow
  repeat' (first | refine WP_seq ?_ | refine WP_region ?_ | refine wl_nil ?_ | refine then_normal ?_ | (refine g_move ?_; refine st_move rfl ?_) | (refine g_assign ?_; refine st_assign rfl ?_) | (refine g_extract ?_; refine st_val rfl (r_extract rfl rfl) ?_))
  refine st_callR rfl (r_call2 rfl rfl rfl) (counted_is (counted_t hokf) (S.rdRow (D := fGContract) (i := 2) rfl) (S.rdRow (D := fGSpot) (i := 1) rfl) (by omega) (by omega) (hG.mono S.below)) ?_; rintro _ w hb ⟨vb, rfl, hrow⟩; replace S := S.new hb hrow; clear hb hrow
  have hcl := cntI_len l sp
  have hcl2 := cntI_len few sp
  have hom : ∀ x ∈ cntI l sp, 0 ≤ x ∧ x < sp.length := fun y hy => cntI_mem hy
  obtain ⟨out, hout⟩ : ∃ out, cntI l sp = out := ⟨_, rfl⟩
  obtain ⟨b, hb⟩ : ∃ b, cntI few sp = b := ⟨_, rfl⟩
  rw [hout, hb] at hcat
  rw [hout] at hcl hom
  rw [hb] at hcl2
  replace S : St w0 w [rowOb fGContract 29 (.slice AL l.length cL) l, rowOb fGSpot 31 (.slice AP sp.length cP) sp, rowOb fGContract 29 (.slice AE few.length cE) few, rowOb (fInt .i64) 3 va out, rowOb (fInt .i64) 3 vb b] := by rw [← hout, ← hb]; exact S
  obtain ⟨AA, cA, hz⟩ := (S.rdRow (D := fInt .i64) (i := 3) rfl).len; subst hz
  repeat' (first | refine WP_seq ?_ | refine WP_region ?_ | refine wl_nil ?_ | refine then_normal ?_ | refine WP_skip ?_ | refine WP_block ?_ | refine WP_condF rfl ?_ | (refine g_move ?_; refine st_move rfl ?_) | (refine g_assign ?_; refine st_assign rfl ?_) | (refine g_pick ?_; refine st_pickF rfl rfl ?_) | (refine g_b_neq ?_; refine st_val rfl (r_neq rfl rfl) ?_) | (refine g_extract ?_; refine st_val rfl (r_extract rfl rfl) ?_))
  replace S := S.nilRow (fInt .i64) 3
  refine WP_loop (fun m σ w1 => ∃ (i : Int) (ve : Value), Has σ [(7, .bool true), (9, .slice AP sp.length cP), (11, .slice AE few.length cE), (13, .slice AA out.length cA), (15, vb), (17, ve), (18, .int .i64 i)] ∧ St w0 w1 [rowOb fGContract 29 (.slice AL l.length cL) l, rowOb fGSpot 31 (.slice AP sp.length cP) sp, rowOb fGContract 29 (.slice AE few.length cE) few, rowOb (fInt .i64) 3 (.slice AA out.length cA) out, rowOb (fInt .i64) 3 vb b, rowOb (fInt .i64) 3 ve ((out.take i.toNat).filter (inCat few sp))] ∧ 0 ≤ i ∧ i ≤ out.length ∧ m = out.length - i.toNat) out.length ⟨0, _, ⟨rfl, rfl, rfl, rfl, rfl, rfl, rfl, trivial⟩, S, by omega, by omega, by omega⟩ ?_
  clear S hs
  rintro m2 σ w1 ⟨i2, ve2, hs, S, hi20, hi21, hm2⟩
  refine WP_has hs ?_
  by_cases hi2 : i2 < out.length
  · have hstep := take_filterI (p := inCat few sp) hi20 hi2
    have hlr := List.length_filter_le (inCat few sp) (out.take i2.toNat)
    rw [List.length_take] at hlr
    have hor := hom _ (nth_mem hi20 hi2)
    obtain ⟨z, hz⟩ : ∃ z, findI few (nth sp (nth out i2)).Contract = z := ⟨_, rfl⟩
    have hzc := find_cases few (nth sp (nth out i2)).Contract
    rw [hz] at hzc
    rcases hzc with ⟨hz0, hzc⟩ | ⟨hz0, hz1, hzc⟩
    · have hp : inCat few sp (nth out i2) = false := by unfold inCat; rw [hzc]; rfl
      rw [hp, if_neg (by decide), List.append_nil] at hstep
      subst hz0
      repeat' (first | refine WP_seq ?_ | refine WP_region ?_ | refine wl_nil ?_ | refine then_normal ?_ | refine inB_normal ?_ | refine WP_skip ?_ | refine WP_block ?_ | refine WP_condF rfl ?_ | (refine g_move ?_; refine st_move rfl ?_) | (refine g_assign ?_; refine st_assign rfl ?_) | (refine g_pick ?_; refine st_pickF rfl rfl ?_) | (refine g_b_add ?_; (refine st_val rfl (r_addN rfl rfl ?_ ?_) ?_; (first | omega | (simp <;> omega)); (first | omega | (simp <;> omega)))) | (refine g_b_lss ?_; refine st_val rfl (r_lss rfl rfl) ?_) | (refine g_b_geq ?_; refine st_val rfl (r_geq rfl rfl) ?_) | (refine g_c_len ?_; refine st_val rfl (r_lenSlice rfl) ?_) | (refine g_fieldAddr ?_; refine st_val rfl (r_fieldAddr rfl) ?_) | (refine g_indexAddr ?_; first | (refine st_val rfl (r_indexAddr (S.rdRow (D := fGSpot) (i := 1) rfl) rfl rfl ?_ ?_) ?_; (first | omega | (simp <;> omega)); (first | omega | (simp <;> omega))) | (refine st_val rfl (r_indexAddr (S.rdRow (D := (fInt .i64)) (i := 3) rfl) rfl rfl ?_ ?_) ?_; (first | omega | (simp <;> omega)); (first | omega | (simp <;> omega)))) | (refine g_load ?_; first | (refine st_val rfl (r_loadElem1 (S.rdRow (D := fGSpot) (i := 1) rfl) rfl ?_ ?_ rfl) ?_; (first | omega | (simp <;> omega)); (first | omega | (simp <;> omega))) | (refine st_val rfl (r_loadElem1 (S.rdRow (D := (fInt .i64)) (i := 3) rfl) rfl ?_ ?_ rfl) ?_; (first | omega | (simp <;> omega)); (first | omega | (simp <;> omega)))) | (refine g_callV ?_; (refine st_callV rfl (r_call2 rfl rfl rfl) (find_is hz (S.rdRow (D := fGContract) (i := 2) rfl) (by omega)) ?_; intro w hb; replace S := S.grow hb; clear hb)) | (refine wl_split rfl rfl (fun h => ?_) (fun h => ?_) <;> (fail_if_success (have hh : true = true := h)) <;> (fail_if_success (have hh : false = false := h)) <;> (try simp only [decide_eq_true_eq, decide_eq_false_iff_not, Bool.not_eq_true', Bool.not_eq_false', Int.not_lt, Int.not_le] at h) <;> (try (exfalso; omega))) | (refine WP_cond rfl (fun h => ?_) (fun h => ?_) <;> (fail_if_success (have hh : true = true := h)) <;> (fail_if_success (have hh : false = false := h)) <;> (try simp only [decide_eq_true_eq, decide_eq_false_iff_not, Bool.not_eq_true', Bool.not_eq_false', Int.not_lt, Int.not_le] at h) <;> (try (exfalso; omega))))
      refine ⟨⟨_, ?_, i2 + 1, ve2, ⟨rfl, rfl, rfl, rfl, rfl, rfl, rfl, trivial⟩, by rw [hstep]; exact S, by omega, by omega, rfl⟩⟩
      omega
    · have hp : inCat few sp (nth out i2) = true := by unfold inCat; rw [hzc]; rfl
      rw [hp, if_pos rfl] at hstep
      repeat' (first | refine WP_seq ?_ | refine WP_region ?_ | refine wl_nil ?_ | refine then_normal ?_ | refine WP_skip ?_ | refine WP_block ?_ | (refine g_move ?_; refine st_move rfl ?_) | (refine g_pick ?_; refine st_pickF rfl rfl ?_) | (refine g_b_lss ?_; refine st_val rfl (r_lss rfl rfl) ?_) | (refine g_b_geq ?_; refine st_val rfl (r_geq rfl rfl) ?_) | (refine g_c_len ?_; refine st_val rfl (r_lenSlice rfl) ?_) | (refine g_fieldAddr ?_; refine st_val rfl (r_fieldAddr rfl) ?_) | (refine g_indexAddr ?_; first | (refine st_val rfl (r_indexAddr (S.rdRow (D := fGSpot) (i := 1) rfl) rfl rfl ?_ ?_) ?_; (first | omega | (simp <;> omega)); (first | omega | (simp <;> omega))) | (refine st_val rfl (r_indexAddr (S.rdRow (D := (fInt .i64)) (i := 3) rfl) rfl rfl ?_ ?_) ?_; (first | omega | (simp <;> omega)); (first | omega | (simp <;> omega)))) | (refine g_load ?_; first | (refine st_val rfl (r_loadElem1 (S.rdRow (D := fGSpot) (i := 1) rfl) rfl ?_ ?_ rfl) ?_; (first | omega | (simp <;> omega)); (first | omega | (simp <;> omega))) | (refine st_val rfl (r_loadElem1 (S.rdRow (D := (fInt .i64)) (i := 3) rfl) rfl ?_ ?_ rfl) ?_; (first | omega | (simp <;> omega)); (first | omega | (simp <;> omega)))) | (refine g_callV ?_; (refine st_callV rfl (r_call2 rfl rfl rfl) (find_is hz (S.rdRow (D := fGContract) (i := 2) rfl) (by omega)) ?_; intro w hb; replace S := S.grow hb; clear hb)) | (refine wl_split rfl rfl (fun h => ?_) (fun h => ?_) <;> (fail_if_success (have hh : true = true := h)) <;> (fail_if_success (have hh : false = false := h)) <;> (try simp only [decide_eq_true_eq, decide_eq_false_iff_not, Bool.not_eq_true', Bool.not_eq_false', Int.not_lt, Int.not_le] at h) <;> (try (exfalso; omega))) | (refine WP_cond rfl (fun h => ?_) (fun h => ?_) <;> (fail_if_success (have hh : true = true := h)) <;> (fail_if_success (have hh : false = false := h)) <;> (try simp only [decide_eq_true_eq, decide_eq_false_iff_not, Bool.not_eq_true', Bool.not_eq_false', Int.not_lt, Int.not_le] at h) <;> (try (exfalso; omega))))
      refine st_valE rfl (r_litF (D := fInt .i64) [nth out i2] (Value.int .i64) S rfl rfl (fun _ => rfl) rfl (by decide) (by decide)) ?_
      rintro _ w ⟨bl, rfl, -, hcl, S'⟩; replace S := S'; clear S'
      refine st_valE rfl (r_append1 (D := fInt .i64) (i := 5) (b := bl) (x := nth out i2) S rfl rfl rfl (fl_one hcl) rfl (by decide) (of_decide_eq_true rfl) (by omega) (by omega)) ?_
      rintro ve' w ⟨-, S'⟩; replace S := S'; clear S' hcl
      repeat' (first | refine WP_region ?_ | refine wl_nil ?_ | refine then_normal ?_ | refine inB_normal ?_ | (refine g_move ?_; refine st_move rfl ?_) | (refine g_assign ?_; refine st_assign rfl ?_) | (refine g_b_add ?_; (refine st_val rfl (r_addN rfl rfl ?_ ?_) ?_; (first | omega | (simp <;> omega)); (first | omega | (simp <;> omega)))))
      refine ⟨⟨_, ?_, i2 + 1, ve', ⟨rfl, rfl, rfl, rfl, rfl, rfl, rfl, trivial⟩, by rw [hstep]; exact S.keep [true, true, true, true, true, true], by omega, by omega, rfl⟩⟩
      omega
  have hit2 : i2.toNat = out.length := by omega
  rw [hit2, List.take_length, ← hcat] at S
  repeat' (first | refine WP_seq ?_ | refine WP_region ?_ | refine wl_nil ?_ | refine then_normal ?_ | refine then_exit ?_ | refine inB_here ?_ | refine WP_ret ?_ | refine WP_exit ?_ | (refine g_move ?_; refine st_move rfl ?_) | (refine g_assign ?_; refine st_assign rfl ?_) | (refine g_pick ?_; refine st_pickT rfl rfl ?_) | (refine g_b_lss ?_; refine st_val rfl (r_lss rfl rfl) ?_) | (refine g_c_len ?_; refine st_val rfl (r_lenSlice rfl) ?_) | (refine g_callV ?_; (refine st_callV rfl (r_call2 rfl rfl rfl) (ints_is (b := true) (decide_eq_true rfl) (S.rdRow (D := fInt .i64) (i := 5) rfl) (S.rdRow (D := fInt .i64) (i := 4) rfl) (by omega) (by omega)) ?_; intro w hb; replace S := S.grow hb; clear hb)) | (refine WP_cond rfl (fun h => ?_) (fun h => ?_) <;> (fail_if_success (have hh : true = true := h)) <;> (fail_if_success (have hh : false = false := h)) <;> (try simp only [decide_eq_true_eq, decide_eq_false_iff_not, Bool.not_eq_true', Bool.not_eq_false', Int.not_lt, Int.not_le] at h) <;> (try (exfalso; omega))))
  exact end1 rfl rfl ⟨rfl, S.below⟩
end Go.Proofs.YteplelijhkmbkaaDoor
