import Derived.Test.YteplelijhkmbkaaDoorLG
import Derived.Test.YteplelijhkmbkaaDoorGxJ5
import Derived.Test.YteplelijhkmbkaaDoorG2
namespace Go.Proofs.YteplelijhkmbkaaDoor
open Go Go.Gx Go.RowKit
set_option linter.unusedVariables false
set_option linter.unusedSimpArgs false

set_option maxHeartbeats 4000000 in
theorem lawNothing_spec {vx vy : Value} {xs : List GArr8Int} {ys : List GArr2Int} {which : Int} {w0 : World} (hG : TblAt w0) (hr1 : Rd fGArr8Int.ty w0 vx xs) (hx : ∀ x ∈ xs, okA8 x) (hxl : xs.length ≤ maxLen) (hr2 : Rd fGArr2Int.ty w0 vy ys) (hy : ∀ y ∈ ys, okA2 y) (hyl : ys.length ≤ maxLen) (ht1 : inI which) :
    CallsV Tryd.prog 5 #[vx, vy, .int .i64 which] w0 (.bool true) := by
  have S := St.start w0
  refine CallsV.mk ?_
  refine calls_enter Tryd.func5 rfl (by intro _ h; first | exact nomatch h.1 | (obtain ⟨_, h, _⟩ := h; exact nomatch h)) Tryd.ntmps5 rfl ?_
  repeat' (first | refine WP_seq ?_ | refine WP_region ?_ | refine wl_nil ?_ | refine then_normal ?_ | refine WP_skip ?_ | refine WP_condF rfl ?_ | (refine g_move ?_; refine st_move rfl ?_) | (refine g_assign ?_; refine st_assign rfl ?_) | (refine g_un ?_; refine st_val rfl (r_not rfl) ?_) | (refine g_callV ?_; (refine st_callV rfl (r_call0 rfl) (sane_spec (hG.mono S.below)) ?_; intro w hb; replace S := S.grow hb; clear hb)))
  refine st_callR rfl (r_call1 rfl rfl) (made_run (hr1.mono S.below) hx hxl) ?_; rintro vL w hb hrow; replace S := S.new hb hrow; clear hb hrow
  obtain ⟨l, hl⟩ : ∃ l, madeL xs = l := ⟨_, rfl⟩
  have hvl : validC l = true := by rw [← hl]; exact madeL_ok xs
  have hll : l.length ≤ 8 := by rw [← hl]; exact madeL_len xs
  rw [hl] at S
  obtain ⟨AL, cL, hz⟩ := (S.rdRow (D := fGContract) (i := 0) rfl).len; subst hz
  repeat' (first | refine WP_seq ?_ | refine WP_region ?_ | refine wl_nil ?_ | refine then_normal ?_ | (refine g_move ?_; refine st_move rfl ?_) | (refine g_assign ?_; refine st_assign rfl ?_))
  refine st_callR rfl (r_call2 rfl rfl rfl) (spots_run (S.rdRow (D := fGContract) (i := 0) rfl) (hr2.mono S.below) hy (by omega) hyl) ?_; rintro vP w hb hrow; replace S := S.new hb hrow; clear hb hrow
  obtain ⟨sp, hsp⟩ : ∃ sp, spotsL l ys = sp := ⟨_, rfl⟩
  have hvp : validP sp = true := by rw [← hsp]; exact spotsL_ok hvl ys
  have hpl : sp.length ≤ 24 := by rw [← hsp]; exact spotsL_len l ys
  rw [hsp] at S
  obtain ⟨AP, cP, hz⟩ := (S.rdRow (D := fGSpot) (i := 1) rfl).len; subst hz
  have hok : okI l sp = true := by unfold okI; rw [hvl, hvp]; rfl
  replace S : St w0 w [rowOb fGContract 29 (.slice AL l.length cL) l, rowOb fGSpot 31 (.slice AP sp.length cP) sp] := S

  by_cases hl0 : sp.length = 0
  · repeat' (first | refine WP_seq ?_ | refine WP_region ?_ | refine wl_nil ?_ | refine then_normal ?_ | refine then_ret ?_ | refine WP_ret ?_ | (refine g_move ?_; refine st_move rfl ?_) | (refine g_assign ?_; refine st_assign rfl ?_) | (refine g_b_eql ?_; refine st_val rfl (r_eql rfl rfl) ?_) | (refine g_c_len ?_; refine st_val rfl (r_lenSlice rfl) ?_) | (refine WP_cond rfl (fun h => ?_) (fun h => ?_) <;> (fail_if_success (have hh : true = true := h)) <;> (fail_if_success (have hh : false = false := h)) <;> (try simp only [decide_eq_true_eq, decide_eq_false_iff_not, Bool.not_eq_true', Bool.not_eq_false', Int.not_lt, Int.not_le] at h) <;> (try (exfalso; omega))))
    all_goals exact end1 rfl rfl ⟨rfl, S.below⟩
  have rk := pickI_range (c := which) (n := (sp.length : Int)) (by omega)
  obtain ⟨k, hk⟩ : ∃ k, pickI which (sp.length : Int) = k := ⟨_, rfl⟩
  rw [hk] at rk
  repeat' (first | refine WP_seq ?_ | refine WP_region ?_ | refine wl_nil ?_ | refine then_normal ?_ | refine WP_skip ?_ | (refine g_move ?_; refine st_move rfl ?_) | (refine g_assign ?_; refine st_assign rfl ?_) | (refine g_b_eql ?_; refine st_val rfl (r_eql rfl rfl) ?_) | (refine g_c_len ?_; refine st_val rfl (r_lenSlice rfl) ?_) | (refine g_callV ?_; (refine st_callV rfl (r_call2 rfl rfl rfl) (pick_is hk ht1.1 ht1.2 (by omega)) ?_; intro w hb; replace S := S.grow hb; clear hb)) | (refine WP_cond rfl (fun h => ?_) (fun h => ?_) <;> (fail_if_success (have hh : true = true := h)) <;> (fail_if_success (have hh : false = false := h)) <;> (try simp only [decide_eq_true_eq, decide_eq_false_iff_not, Bool.not_eq_true', Bool.not_eq_false', Int.not_lt, Int.not_le] at h) <;> (try (exfalso; omega))))
  refine st_callR rfl (r_call2 rfl rfl rfl) (counted_is (counted_t hok) (S.rdRow (D := fGContract) (i := 0) rfl) (S.rdRow (D := fGSpot) (i := 1) rfl) (by omega) (by omega) (hG.mono S.below)) ?_; rintro _ w hb ⟨va, rfl, hrow⟩; replace S := S.new hb hrow; clear hb hrow
  have hcl := cntI_len l sp
  obtain ⟨x, hx0⟩ : ∃ x, nth sp k = x := ⟨_, rfl⟩
  have hxm : nth sp k ∈ sp := nth_mem rk.1 rk.2
  obtain ⟨out, hout⟩ : ∃ out, cntI l sp = out := ⟨_, rfl⟩
  have hom : ∀ x ∈ out, 0 ≤ x ∧ x < sp.length := by rw [← hout]; exact fun y hy => cntI_mem hy
  obtain ⟨W, hW⟩ : ∃ W, spAt sp (cntI l sp) = W := ⟨_, rfl⟩
  have hWl : W.length ≤ 24 := by rw [← hW, spAt_len]; omega
  have kn := @keptN_le W (nth sp k)
  have k1 : keptN W (nth sp k) ≤ 1 := by rw [← hW]; exact keptN_one l sp _
  rw [hout] at hcl
  replace S : St w0 w [rowOb fGContract 29 (.slice AL l.length cL) l, rowOb fGSpot 31 (.slice AP sp.length cP) sp, rowOb (fInt .i64) 3 va out] := by rw [← hout]; exact S
  obtain ⟨AA, cA, hz⟩ := (S.rdRow (D := fInt .i64) (i := 2) rfl).len; subst hz
  repeat' (first | refine WP_seq ?_ | refine WP_region ?_ | refine wl_nil ?_ | refine then_normal ?_ | (refine g_move ?_; refine st_move rfl ?_) | (refine g_assign ?_; refine st_assign rfl ?_) | (refine g_extract ?_; refine st_val rfl (r_extract rfl rfl) ?_) | (refine g_indexAddr ?_; (refine st_val rfl (r_indexAddr (S.rdRow (D := fGSpot) (i := 1) rfl) rfl rfl ?_ ?_) ?_; (first | omega | (simp <;> omega)); (first | omega | (simp <;> omega)))) | (refine g_load ?_; (refine st_val rfl (r_loadElem (S.rdRow (D := fGSpot) (i := 1) rfl) rfl ?_ ?_) ?_; (first | omega | (simp <;> omega)); (first | omega | (simp <;> omega)))))
  refine st_callR rfl (r_call3 rfl rfl rfl rfl) (keptR_is (r := W) (x := nth sp k) (by rw [← hout]; exact hW) rfl (S.rdRow (D := fGSpot) (i := 1) rfl) (S.rdRow (D := fInt .i64) (i := 2) rfl) (by omega) (by omega) hom) ?_; rintro _ w hb ⟨vw, rfl, hrow⟩; replace S := S.new hb hrow; clear hb hrow
  repeat' (first | refine WP_seq ?_ | refine WP_region ?_ | refine wl_nil ?_ | refine then_normal ?_ | refine WP_block ?_ | (refine g_move ?_; refine st_move rfl ?_) | (refine g_assign ?_; refine st_assign rfl ?_) | (refine g_extract ?_; refine st_val rfl (r_extract rfl rfl) ?_))
  refine WP_loop (fun m σ w1 => ∃ (i n : Int) (b : Bool), Has σ [(7, .bool true), (8, .slice AL l.length cL), (9, .slice AP sp.length cP), (10, .int .i64 k), (11, .slice AA out.length cA), (12, .int .i64 0), (13, vw), (14, .int .i64 n), (15, .bool b), (16, .int .i64 i)] ∧ St w0 w1 [rowOb fGContract 29 (.slice AL l.length cL) l, rowOb fGSpot 31 (.slice AP sp.length cP) sp, rowOb (fInt .i64) 3 (.slice AA out.length cA) out, rowOb fGSpot 31 vw W] ∧ n = keptN W (nth sp k) ∧ 0 ≤ i ∧ i ≤ out.length ∧ b = decide (k ∈ out.take i.toNat) ∧ m = out.length - i.toNat) out.length ⟨0, _, _, ⟨rfl, rfl, rfl, rfl, rfl, rfl, rfl, rfl, rfl, rfl, trivial⟩, S, rfl, by omega, by omega, rfl, by omega⟩ ?_
  clear S
  rintro m σ w1 ⟨i, n, b, hs, S, hn, hi0, hi1, hbk, hm⟩
  refine WP_has hs ?_
  by_cases hi : i < out.length
  · have hstep : decide (k ∈ out.take (i + 1).toNat) = (b || decide (nth out i = k)) := by
      rw [show (i + 1).toNat = i.toNat + 1 by omega, List.take_add_one, nth_get hi0 hi, hbk, ← Bool.decide_or, decide_eq_decide, Option.toList_some, List.mem_append, List.mem_singleton]
      constructor
      · rintro (h | h)
        · exact .inl h
        · exact .inr h.symm
      · rintro (h | h)
        · exact .inl h
        · exact .inr h.symm
    cases b with
    | true =>
      repeat' (first | refine WP_seq ?_ | refine WP_region ?_ | refine wl_nil ?_ | refine then_normal ?_ | refine inB_normal ?_ | refine WP_skip ?_ | refine WP_block ?_ | (refine g_guard ?_; refine st_off rfl ?_) | (refine g_move ?_; refine st_move rfl ?_) | (refine g_assign ?_; refine st_assign rfl ?_) | (refine g_pick ?_; refine st_pickT rfl rfl ?_) | (refine g_b_add ?_; (refine st_val rfl (r_addN rfl rfl ?_ ?_) ?_; (first | omega | (simp <;> omega)); (first | omega | (simp <;> omega)))) | (refine g_b_lss ?_; refine st_val rfl (r_lss rfl rfl) ?_) | (refine g_c_len ?_; refine st_val rfl (r_lenSlice rfl) ?_) | (refine WP_cond rfl (fun h => ?_) (fun h => ?_) <;> (fail_if_success (have hh : true = true := h)) <;> (fail_if_success (have hh : false = false := h)) <;> (try simp only [decide_eq_true_eq, decide_eq_false_iff_not, Bool.not_eq_true', Bool.not_eq_false', Int.not_lt, Int.not_le] at h) <;> (try (exfalso; omega))))
      refine ⟨⟨_, ?_, i + 1, n, _, ⟨rfl, rfl, rfl, rfl, rfl, rfl, rfl, rfl, rfl, rfl, trivial⟩, S, hn, by omega, by omega, by rw [hstep]; rfl, rfl⟩⟩
      omega
    | false =>
      repeat' (first | refine WP_seq ?_ | refine WP_region ?_ | refine wl_nil ?_ | refine then_normal ?_ | refine inB_normal ?_ | refine WP_skip ?_ | refine WP_block ?_ | (refine g_move ?_; refine st_move rfl ?_) | (refine g_assign ?_; refine st_assign rfl ?_) | (refine g_pick ?_; refine st_pickF rfl rfl ?_) | (refine g_b_add ?_; (refine st_val rfl (r_addN rfl rfl ?_ ?_) ?_; (first | omega | (simp <;> omega)); (first | omega | (simp <;> omega)))) | (refine g_b_eql ?_; refine st_val rfl (r_eql rfl rfl) ?_) | (refine g_b_lss ?_; refine st_val rfl (r_lss rfl rfl) ?_) | (refine g_c_len ?_; refine st_val rfl (r_lenSlice rfl) ?_) | (refine g_indexAddr ?_; (refine st_val rfl (r_indexAddr (S.rdRow (D := (fInt .i64)) (i := 2) rfl) rfl rfl ?_ ?_) ?_; (first | omega | (simp <;> omega)); (first | omega | (simp <;> omega)))) | (refine g_load ?_; (refine st_val rfl (r_loadElem1 (S.rdRow (D := (fInt .i64)) (i := 2) rfl) rfl ?_ ?_ rfl) ?_; (first | omega | (simp <;> omega)); (first | omega | (simp <;> omega)))) | (refine WP_cond rfl (fun h => ?_) (fun h => ?_) <;> (fail_if_success (have hh : true = true := h)) <;> (fail_if_success (have hh : false = false := h)) <;> (try simp only [decide_eq_true_eq, decide_eq_false_iff_not, Bool.not_eq_true', Bool.not_eq_false', Int.not_lt, Int.not_le] at h) <;> (try (exfalso; omega))))
      refine ⟨⟨_, ?_, i + 1, n, _, ⟨rfl, rfl, rfl, rfl, rfl, rfl, rfl, rfl, rfl, rfl, trivial⟩, S, hn, by omega, by omega, by rw [hstep]; rfl, rfl⟩⟩
      omega
  have hit : i.toNat = out.length := by omega
  rw [hit, List.take_length] at hbk
  have hokd : okI l (sp ++ [nth sp k]) = true := by
    refine okI_of hvl ?_
    unfold validP
    rw [decide_eq_true (by rw [List.length_append, List.length_singleton]; omega), Bool.true_and, List.all_append]
    have h1 := (Bool.and_eq_true_iff.1 hvp).2
    rw [h1]
    simp [List.all_eq_true.1 h1 _ hxm]
  have hdl : (sp ++ [nth sp k]).length = sp.length + 1 := by rw [List.length_append, List.length_singleton]
  have hWd : spAt (sp ++ [nth sp k]) (cntI l (sp ++ [nth sp k])) = W := by rw [← hW]; exact cntS_dup hxm
  have hcd := cntI_len l (sp ++ [nth sp k])
  repeat' (first | refine WP_seq ?_ | refine WP_region ?_ | refine wl_nil ?_ | refine then_normal ?_ | (refine g_move ?_; refine st_move rfl ?_) | (refine g_b_lss ?_; refine st_val rfl (r_lss rfl rfl) ?_) | (refine g_c_len ?_; refine st_val rfl (r_lenSlice rfl) ?_))
  refine WP_cond rfl (fun h => absurd (of_decide_eq_true h) (by omega)) (fun h => ?_)
  repeat' (first | refine WP_seq ?_ | refine then_normal ?_ | refine then_exit ?_ | refine inB_here ?_ | refine WP_exit ?_)
  refine WP_then_cut (fun σ w1 => ∃ vd, Has σ [(7, .bool true), (8, .slice AL l.length cL), (9, .slice AP sp.length cP), (10, .int .i64 k), (11, .slice AA out.length cA), (12, .int .i64 0), (13, vw), (14, .int .i64 n), (15, .bool b), (17, vd), (18, .int .i64 0)] ∧ St w0 w1 [rowOb fGContract 29 (.slice AL l.length cL) l, rowOb fGSpot 31 (.slice AP sp.length cP) sp, rowOb (fInt .i64) 3 (.slice AA out.length cA) out, rowOb fGSpot 31 vw W, rowOb (fInt .i64) 3 vd (cntI l (sp ++ [nth sp k]))]) ?_ ?_
  · refine WP_drawT (fun w' => St w0 w' [rowOb fGContract 29 (.slice AL l.length cL) l, rowOb fGSpot 31 (.slice AP sp.length cP) sp, rowOb (fInt .i64) 3 (.slice AA out.length cA) out, rowOb fGSpot 31 vw W]) [0, 2, 4, 5, 6, 7] (.two 1 (.two 3 (.one 8 (.one 9 (.one 10 .fin))) 8 (.one 3 (.one 9 (.one 10 .fin)))) 8 (.one 1 (.one 3 (.one 9 (.one 10 .fin))))) [11, 12, 13, 14, 15] (by kernel_rfl) (by decide) (by decide +kernel) (fun w' hb => S.grow hb) ?_
    intro w hb; replace S := S.grow hb; clear hb
    refine jq_val rfl (fun w' hJ => ⟨rfl⟩) ?_
    refine jq_val rfl (fun w' hJ => ⟨rfl⟩) ?_
    refine jq_val rfl (fun w' hJ => ⟨rfl⟩) ?_
    refine jq_val rfl (fun w' hJ => ⟨rfl⟩) ?_
    refine jq_val rfl (fun w' hJ => r_indexAddr (hJ.rdRow (D := fGSpot) (i := 1) rfl) rfl rfl (by omega) (by omega)) ?_
    refine jq_val rfl (fun w' hJ => r_loadElem (hJ.rdRow (D := fGSpot) (i := 1) rfl) rfl (by omega) (by omega)) ?_
    refine jq_nil ?_
    refine wt_two ?_ ?_
    · refine kq_valE rfl (r_lit0 (D := fGSpot) S) ?_; rintro vX w ⟨-, S'⟩; refine ⟨S'.keep [true, true, true, true], ?_⟩; replace S := S'; clear S'
      refine wt_two ?_ ?_
      · refine kq_valE rfl (r_appendRd (i := 4) (l := []) (D := fGSpot) S rfl (S.rdRow (D := fGSpot) (i := 1) rfl) rfl rfl rfl (by decide) one_sp (by simp; omega) (by simp; omega)) ?_; rintro vX1 w ⟨-, S'⟩; refine ⟨S'.keep [true, true, true, true], ?_⟩; replace S := S'; clear S'
        refine wt_one ?_
        refine kq_valE rfl (r_litF (D := fGSpot) [nth sp k] (fun y => .agg y.enc.toArray) S rfl rfl (fun _ => rfl) rfl (by decide) (by decide)) ?_; rintro _ w ⟨bl, rfl, -, -, S'⟩; refine ⟨S'.keep [true, true, true, true], ?_⟩; replace S := S'; clear S'
        refine wt_one ?_
        refine kq_valE rfl (r_appendRd (i := 4) (l := [] ++ sp) (D := fGSpot) S rfl (S.rdRow (D := fGSpot) (i := 5) rfl) rfl rfl rfl (by decide) one_sp (by simp; omega) (by simp; omega)) ?_; rintro vX2 w ⟨-, S'⟩; refine ⟨S'.keep [true, true, true, true], ?_⟩; replace S := S'; clear S'
        replace S : St w0 w [rowOb fGContract 29 (.slice AL l.length cL) l, rowOb fGSpot 31 (.slice AP sp.length cP) sp, rowOb (fInt .i64) 3 (.slice AA out.length cA) out, rowOb fGSpot 31 vw W, rowOb fGSpot 31 vX2 (sp ++ [nth sp k])] := by first | exact S.keep [true, true, true, true, true, false] | exact S.keep [true, true, true, true, false, true]
        refine wt_one ?_
        refine kq_callR rfl (r_call2 rfl rfl rfl) (counted_is (counted_t hokd) (S.rdRow (D := fGContract) (i := 0) rfl) (S.rdRow (D := fGSpot) (i := 4) rfl) (by omega) (by omega) (hG.mono S.below)) ?_; rintro _ w hb ⟨vd, rfl, hrow⟩; refine ⟨(S.new hb hrow).keep [true, true, true, true], ?_⟩; replace S := S.new hb hrow; clear hb hrow
        refine wt_fin ?_
        refine jq_val rfl (fun w' hJ => ⟨rfl⟩) ?_
        refine jq_val rfl (fun w' hJ => r_extract rfl rfl) ?_
        refine jq_val rfl (fun w' hJ => r_extract rfl rfl) ?_
        refine jq_val rfl (fun w' hJ => ⟨rfl⟩) ?_
        refine jq_val rfl (fun w' hJ => ⟨rfl⟩) ?_
        refine jq_nil ?_
        refine calm_normal ?_
        refine then_normal ?_
        exact ⟨vd, ⟨rfl, rfl, rfl, rfl, rfl, rfl, rfl, rfl, rfl, rfl, rfl, trivial⟩, S.keep [true, true, true, true, false, true]⟩
      · refine kq_valE rfl (r_litF (D := fGSpot) [nth sp k] (fun y => .agg y.enc.toArray) S rfl rfl (fun _ => rfl) rfl (by decide) (by decide)) ?_; rintro _ w ⟨bl, rfl, -, -, S'⟩; refine ⟨S'.keep [true, true, true, true], ?_⟩; replace S := S'; clear S'
        refine wt_one ?_
        refine kq_valE rfl (r_appendRd (i := 4) (l := []) (D := fGSpot) S rfl (S.rdRow (D := fGSpot) (i := 1) rfl) rfl rfl rfl (by decide) one_sp (by simp; omega) (by simp; omega)) ?_; rintro vX1 w ⟨-, S'⟩; refine ⟨S'.keep [true, true, true, true], ?_⟩; replace S := S'; clear S'
        refine wt_one ?_
        refine kq_valE rfl (r_appendRd (i := 4) (l := [] ++ sp) (D := fGSpot) S rfl (S.rdRow (D := fGSpot) (i := 5) rfl) rfl rfl rfl (by decide) one_sp (by simp; omega) (by simp; omega)) ?_; rintro vX2 w ⟨-, S'⟩; refine ⟨S'.keep [true, true, true, true], ?_⟩; replace S := S'; clear S'
        replace S : St w0 w [rowOb fGContract 29 (.slice AL l.length cL) l, rowOb fGSpot 31 (.slice AP sp.length cP) sp, rowOb (fInt .i64) 3 (.slice AA out.length cA) out, rowOb fGSpot 31 vw W, rowOb fGSpot 31 vX2 (sp ++ [nth sp k])] := by first | exact S.keep [true, true, true, true, true, false] | exact S.keep [true, true, true, true, false, true]
        refine wt_one ?_
        refine kq_callR rfl (r_call2 rfl rfl rfl) (counted_is (counted_t hokd) (S.rdRow (D := fGContract) (i := 0) rfl) (S.rdRow (D := fGSpot) (i := 4) rfl) (by omega) (by omega) (hG.mono S.below)) ?_; rintro _ w hb ⟨vd, rfl, hrow⟩; refine ⟨(S.new hb hrow).keep [true, true, true, true], ?_⟩; replace S := S.new hb hrow; clear hb hrow
        refine wt_fin ?_
        refine jq_val rfl (fun w' hJ => ⟨rfl⟩) ?_
        refine jq_val rfl (fun w' hJ => r_extract rfl rfl) ?_
        refine jq_val rfl (fun w' hJ => r_extract rfl rfl) ?_
        refine jq_val rfl (fun w' hJ => ⟨rfl⟩) ?_
        refine jq_val rfl (fun w' hJ => ⟨rfl⟩) ?_
        refine jq_nil ?_
        refine calm_normal ?_
        refine then_normal ?_
        exact ⟨vd, ⟨rfl, rfl, rfl, rfl, rfl, rfl, rfl, rfl, rfl, rfl, rfl, trivial⟩, S.keep [true, true, true, true, false, true]⟩
    · refine kq_valE rfl (r_litF (D := fGSpot) [nth sp k] (fun y => .agg y.enc.toArray) S rfl rfl (fun _ => rfl) rfl (by decide) (by decide)) ?_; rintro _ w ⟨bl, rfl, -, -, S'⟩; refine ⟨S'.keep [true, true, true, true], ?_⟩; replace S := S'; clear S'
      refine wt_one ?_
      refine kq_valE rfl (r_lit0 (D := fGSpot) S) ?_; rintro vX w ⟨-, S'⟩; refine ⟨S'.keep [true, true, true, true], ?_⟩; replace S := S'; clear S'
      refine wt_one ?_
      refine kq_valE rfl (r_appendRd (i := 5) (l := []) (D := fGSpot) S rfl (S.rdRow (D := fGSpot) (i := 1) rfl) rfl rfl rfl (by decide) one_sp (by simp; omega) (by simp; omega)) ?_; rintro vX1 w ⟨-, S'⟩; refine ⟨S'.keep [true, true, true, true], ?_⟩; replace S := S'; clear S'
      refine wt_one ?_
      refine kq_valE rfl (r_appendRd (i := 5) (l := [] ++ sp) (D := fGSpot) S rfl (S.rdRow (D := fGSpot) (i := 4) rfl) rfl rfl rfl (by decide) one_sp (by simp; omega) (by simp; omega)) ?_; rintro vX2 w ⟨-, S'⟩; refine ⟨S'.keep [true, true, true, true], ?_⟩; replace S := S'; clear S'
      replace S : St w0 w [rowOb fGContract 29 (.slice AL l.length cL) l, rowOb fGSpot 31 (.slice AP sp.length cP) sp, rowOb (fInt .i64) 3 (.slice AA out.length cA) out, rowOb fGSpot 31 vw W, rowOb fGSpot 31 vX2 (sp ++ [nth sp k])] := by first | exact S.keep [true, true, true, true, true, false] | exact S.keep [true, true, true, true, false, true]
      refine wt_one ?_
      refine kq_callR rfl (r_call2 rfl rfl rfl) (counted_is (counted_t hokd) (S.rdRow (D := fGContract) (i := 0) rfl) (S.rdRow (D := fGSpot) (i := 4) rfl) (by omega) (by omega) (hG.mono S.below)) ?_; rintro _ w hb ⟨vd, rfl, hrow⟩; refine ⟨(S.new hb hrow).keep [true, true, true, true], ?_⟩; replace S := S.new hb hrow; clear hb hrow
      refine wt_fin ?_
      refine jq_val rfl (fun w' hJ => ⟨rfl⟩) ?_
      refine jq_val rfl (fun w' hJ => r_extract rfl rfl) ?_
      refine jq_val rfl (fun w' hJ => r_extract rfl rfl) ?_
      refine jq_val rfl (fun w' hJ => ⟨rfl⟩) ?_
      refine jq_val rfl (fun w' hJ => ⟨rfl⟩) ?_
      refine jq_nil ?_
      refine calm_normal ?_
      refine then_normal ?_
      exact ⟨vd, ⟨rfl, rfl, rfl, rfl, rfl, rfl, rfl, rfl, rfl, rfl, rfl, trivial⟩, S.keep [true, true, true, true, false, true]⟩
  clear S hs
  rintro σ w1 ⟨vd, hs, S⟩
  refine WP_has hs ?_
  repeat' (refine WP_seq ?_)
  refine WP_then_cut (fun σ w1 => ∃ ve, Has σ [(7, .bool true), (8, .slice AL l.length cL), (9, .slice AP sp.length cP), (10, .int .i64 k), (11, .slice AA out.length cA), (12, .int .i64 0), (13, vw), (14, .int .i64 n), (15, .bool b), (18, .int .i64 0), (19, ve), (20, .int .i64 (keptN W (nth sp k)))] ∧ St w0 w1 [rowOb fGContract 29 (.slice AL l.length cL) l, rowOb fGSpot 31 (.slice AP sp.length cP) sp, rowOb (fInt .i64) 3 (.slice AA out.length cA) out, rowOb fGSpot 31 vw W, rowOb fGSpot 31 ve W]) ?_ ?_
  · refine WP_drawT (fun w' => St w0 w' [rowOb fGContract 29 (.slice AL l.length cL) l, rowOb fGSpot 31 (.slice AP sp.length cP) sp, rowOb (fInt .i64) 3 (.slice AA out.length cA) out, rowOb fGSpot 31 vw W, rowOb (fInt .i64) 3 vd (cntI l (sp ++ [nth sp k]))]) [1, 3, 4, 5, 6, 9, 10, 11, 12, 13] (.two 0 (.two 2 (.one 7 (.one 8 (.one 14 .fin))) 7 (.one 2 (.one 8 (.one 14 .fin)))) 7 (.one 0 (.one 2 (.one 8 (.one 14 .fin))))) [15, 16, 17, 18, 19] (by kernel_rfl) (by decide) (by decide +kernel) (fun w' hb => S.grow hb) ?_
    intro w hb; replace S := S.grow hb; clear hb
    refine jq_val rfl (fun w' hJ => ⟨rfl⟩) ?_
    refine jq_val rfl (fun w' hJ => ⟨rfl⟩) ?_
    refine jq_val rfl (fun w' hJ => ⟨rfl⟩) ?_
    refine jq_val rfl (fun w' hJ => r_indexAddr (hJ.rdRow (D := fGSpot) (i := 1) rfl) rfl rfl (by omega) (by omega)) ?_
    refine jq_val rfl (fun w' hJ => r_loadElem (hJ.rdRow (D := fGSpot) (i := 1) rfl) rfl (by omega) (by omega)) ?_
    refine jq_val rfl (fun w' hJ => ⟨rfl⟩) ?_
    refine jq_val rfl (fun w' hJ => ⟨rfl⟩) ?_
    refine jq_val rfl (fun w' hJ => ⟨rfl⟩) ?_
    refine jq_val rfl (fun w' hJ => r_indexAddr (hJ.rdRow (D := fGSpot) (i := 1) rfl) rfl rfl (by omega) (by omega)) ?_
    refine jq_val rfl (fun w' hJ => r_loadElem (hJ.rdRow (D := fGSpot) (i := 1) rfl) rfl (by omega) (by omega)) ?_
    refine jq_nil ?_
    refine wt_two ?_ ?_
    · refine kq_valE rfl (r_lit0 (D := fGSpot) S) ?_; rintro vX w ⟨-, S'⟩; refine ⟨S'.keep [true, true, true, true, true], ?_⟩; replace S := S'; clear S'
      refine wt_two ?_ ?_
      · refine kq_valE rfl (r_appendRd (i := 5) (l := []) (D := fGSpot) S rfl (S.rdRow (D := fGSpot) (i := 1) rfl) rfl rfl rfl (by decide) one_sp (by simp; omega) (by simp; omega)) ?_; rintro vX1 w ⟨-, S'⟩; refine ⟨S'.keep [true, true, true, true, true], ?_⟩; replace S := S'; clear S'
        refine wt_one ?_
        refine kq_valE rfl (r_litF (D := fGSpot) [nth sp k] (fun y => .agg y.enc.toArray) S rfl rfl (fun _ => rfl) rfl (by decide) (by decide)) ?_; rintro _ w ⟨bl, rfl, -, -, S'⟩; refine ⟨S'.keep [true, true, true, true, true], ?_⟩; replace S := S'; clear S'
        refine wt_one ?_
        refine kq_valE rfl (r_appendRd (i := 5) (l := [] ++ sp) (D := fGSpot) S rfl (S.rdRow (D := fGSpot) (i := 6) rfl) rfl rfl rfl (by decide) one_sp (by simp; omega) (by simp; omega)) ?_; rintro vX2 w ⟨-, S'⟩; refine ⟨S'.keep [true, true, true, true, true], ?_⟩; replace S := S'; clear S'
        replace S : St w0 w [rowOb fGContract 29 (.slice AL l.length cL) l, rowOb fGSpot 31 (.slice AP sp.length cP) sp, rowOb (fInt .i64) 3 (.slice AA out.length cA) out, rowOb fGSpot 31 vw W, rowOb (fInt .i64) 3 vd (cntI l (sp ++ [nth sp k])), rowOb fGSpot 31 vX2 (sp ++ [nth sp k])] := by first | exact S.keep [true, true, true, true, true, true, false] | exact S.keep [true, true, true, true, true, false, true]
        refine wt_one ?_
        refine kq_callR rfl (r_call3 rfl rfl rfl rfl) (keptR_is (x := nth sp k) hWd rfl (S.rdRow (D := fGSpot) (i := 5) rfl) (S.rdRow (D := fInt .i64) (i := 4) rfl) (by omega) (by omega) (fun y hy => cntI_mem hy)) ?_; rintro _ w hb ⟨ve, rfl, hrow⟩; refine ⟨(S.new hb hrow).keep [true, true, true, true, true], ?_⟩; replace S := S.new hb hrow; clear hb hrow
        refine wt_fin ?_
        refine jq_val rfl (fun w' hJ => ⟨rfl⟩) ?_
        refine jq_val rfl (fun w' hJ => r_extract rfl rfl) ?_
        refine jq_val rfl (fun w' hJ => r_extract rfl rfl) ?_
        refine jq_val rfl (fun w' hJ => ⟨rfl⟩) ?_
        refine jq_val rfl (fun w' hJ => ⟨rfl⟩) ?_
        refine jq_nil ?_
        refine calm_normal ?_
        refine then_normal ?_
        exact ⟨ve, ⟨rfl, rfl, rfl, rfl, rfl, rfl, rfl, rfl, rfl, rfl, rfl, rfl, trivial⟩, S.keep [true, true, true, true, false, false, true]⟩
      · refine kq_valE rfl (r_litF (D := fGSpot) [nth sp k] (fun y => .agg y.enc.toArray) S rfl rfl (fun _ => rfl) rfl (by decide) (by decide)) ?_; rintro _ w ⟨bl, rfl, -, -, S'⟩; refine ⟨S'.keep [true, true, true, true, true], ?_⟩; replace S := S'; clear S'
        refine wt_one ?_
        refine kq_valE rfl (r_appendRd (i := 5) (l := []) (D := fGSpot) S rfl (S.rdRow (D := fGSpot) (i := 1) rfl) rfl rfl rfl (by decide) one_sp (by simp; omega) (by simp; omega)) ?_; rintro vX1 w ⟨-, S'⟩; refine ⟨S'.keep [true, true, true, true, true], ?_⟩; replace S := S'; clear S'
        refine wt_one ?_
        refine kq_valE rfl (r_appendRd (i := 5) (l := [] ++ sp) (D := fGSpot) S rfl (S.rdRow (D := fGSpot) (i := 6) rfl) rfl rfl rfl (by decide) one_sp (by simp; omega) (by simp; omega)) ?_; rintro vX2 w ⟨-, S'⟩; refine ⟨S'.keep [true, true, true, true, true], ?_⟩; replace S := S'; clear S'
        replace S : St w0 w [rowOb fGContract 29 (.slice AL l.length cL) l, rowOb fGSpot 31 (.slice AP sp.length cP) sp, rowOb (fInt .i64) 3 (.slice AA out.length cA) out, rowOb fGSpot 31 vw W, rowOb (fInt .i64) 3 vd (cntI l (sp ++ [nth sp k])), rowOb fGSpot 31 vX2 (sp ++ [nth sp k])] := by first | exact S.keep [true, true, true, true, true, true, false] | exact S.keep [true, true, true, true, true, false, true]
        refine wt_one ?_
        refine kq_callR rfl (r_call3 rfl rfl rfl rfl) (keptR_is (x := nth sp k) hWd rfl (S.rdRow (D := fGSpot) (i := 5) rfl) (S.rdRow (D := fInt .i64) (i := 4) rfl) (by omega) (by omega) (fun y hy => cntI_mem hy)) ?_; rintro _ w hb ⟨ve, rfl, hrow⟩; refine ⟨(S.new hb hrow).keep [true, true, true, true, true], ?_⟩; replace S := S.new hb hrow; clear hb hrow
        refine wt_fin ?_
        refine jq_val rfl (fun w' hJ => ⟨rfl⟩) ?_
        refine jq_val rfl (fun w' hJ => r_extract rfl rfl) ?_
        refine jq_val rfl (fun w' hJ => r_extract rfl rfl) ?_
        refine jq_val rfl (fun w' hJ => ⟨rfl⟩) ?_
        refine jq_val rfl (fun w' hJ => ⟨rfl⟩) ?_
        refine jq_nil ?_
        refine calm_normal ?_
        refine then_normal ?_
        exact ⟨ve, ⟨rfl, rfl, rfl, rfl, rfl, rfl, rfl, rfl, rfl, rfl, rfl, rfl, trivial⟩, S.keep [true, true, true, true, false, false, true]⟩
    · refine kq_valE rfl (r_litF (D := fGSpot) [nth sp k] (fun y => .agg y.enc.toArray) S rfl rfl (fun _ => rfl) rfl (by decide) (by decide)) ?_; rintro _ w ⟨bl, rfl, -, -, S'⟩; refine ⟨S'.keep [true, true, true, true, true], ?_⟩; replace S := S'; clear S'
      refine wt_one ?_
      refine kq_valE rfl (r_lit0 (D := fGSpot) S) ?_; rintro vX w ⟨-, S'⟩; refine ⟨S'.keep [true, true, true, true, true], ?_⟩; replace S := S'; clear S'
      refine wt_one ?_
      refine kq_valE rfl (r_appendRd (i := 6) (l := []) (D := fGSpot) S rfl (S.rdRow (D := fGSpot) (i := 1) rfl) rfl rfl rfl (by decide) one_sp (by simp; omega) (by simp; omega)) ?_; rintro vX1 w ⟨-, S'⟩; refine ⟨S'.keep [true, true, true, true, true], ?_⟩; replace S := S'; clear S'
      refine wt_one ?_
      refine kq_valE rfl (r_appendRd (i := 6) (l := [] ++ sp) (D := fGSpot) S rfl (S.rdRow (D := fGSpot) (i := 5) rfl) rfl rfl rfl (by decide) one_sp (by simp; omega) (by simp; omega)) ?_; rintro vX2 w ⟨-, S'⟩; refine ⟨S'.keep [true, true, true, true, true], ?_⟩; replace S := S'; clear S'
      replace S : St w0 w [rowOb fGContract 29 (.slice AL l.length cL) l, rowOb fGSpot 31 (.slice AP sp.length cP) sp, rowOb (fInt .i64) 3 (.slice AA out.length cA) out, rowOb fGSpot 31 vw W, rowOb (fInt .i64) 3 vd (cntI l (sp ++ [nth sp k])), rowOb fGSpot 31 vX2 (sp ++ [nth sp k])] := by first | exact S.keep [true, true, true, true, true, true, false] | exact S.keep [true, true, true, true, true, false, true]
      refine wt_one ?_
      refine kq_callR rfl (r_call3 rfl rfl rfl rfl) (keptR_is (x := nth sp k) hWd rfl (S.rdRow (D := fGSpot) (i := 5) rfl) (S.rdRow (D := fInt .i64) (i := 4) rfl) (by omega) (by omega) (fun y hy => cntI_mem hy)) ?_; rintro _ w hb ⟨ve, rfl, hrow⟩; refine ⟨(S.new hb hrow).keep [true, true, true, true, true], ?_⟩; replace S := S.new hb hrow; clear hb hrow
      refine wt_fin ?_
      refine jq_val rfl (fun w' hJ => ⟨rfl⟩) ?_
      refine jq_val rfl (fun w' hJ => r_extract rfl rfl) ?_
      refine jq_val rfl (fun w' hJ => r_extract rfl rfl) ?_
      refine jq_val rfl (fun w' hJ => ⟨rfl⟩) ?_
      refine jq_val rfl (fun w' hJ => ⟨rfl⟩) ?_
      refine jq_nil ?_
      refine calm_normal ?_
      refine then_normal ?_
      exact ⟨ve, ⟨rfl, rfl, rfl, rfl, rfl, rfl, rfl, rfl, rfl, rfl, rfl, rfl, trivial⟩, S.keep [true, true, true, true, false, false, true]⟩
  clear S hs
  rintro σ w1 ⟨ve, hs, S⟩
  refine WP_has hs ?_
  subst hn
  by_cases hko : k ∈ out
  · have hbt : b = true := by rw [hbk]; exact decide_eq_true hko
    subst hbt
    repeat' (first | refine WP_seq ?_ | refine WP_region ?_ | refine wl_nil ?_ | refine then_normal ?_ | refine then_ret ?_ | refine WP_ret ?_ | refine WP_skip ?_ | refine WP_condT rfl ?_ | refine WP_condF rfl ?_ | (refine g_move ?_; refine st_move rfl ?_) | (refine g_assign ?_; refine st_assign rfl ?_) | (refine g_pick ?_; refine st_pickF rfl rfl ?_) | (refine g_b_neq ?_; refine st_val rfl (r_neq rfl rfl) ?_) | (refine g_b_lss ?_; refine st_val rfl (r_lss rfl rfl) ?_) | (refine g_b_gtr ?_; refine st_val rfl (r_gtr rfl rfl) ?_) | (refine g_un ?_; refine st_val rfl (r_not rfl) ?_) | (refine g_callV ?_; (refine st_callV rfl (r_call2 rfl rfl rfl) (same_is (b := true) (l := W) (m := W) (decide_eq_true rfl) (S.rdRow (D := fGSpot) (i := 3) rfl) (S.rdRow (D := fGSpot) (i := 4) rfl) (Nat.le_trans hWl (by decide)) (Nat.le_trans hWl (by decide))) ?_; intro w hb; replace S := S.grow hb; clear hb)) | (refine wl_split rfl rfl (fun h => ?_) (fun h => ?_) <;> (fail_if_success (have hh : true = true := h)) <;> (fail_if_success (have hh : false = false := h)) <;> (try simp only [decide_eq_true_eq, decide_eq_false_iff_not, Bool.not_eq_true', Bool.not_eq_false', Int.not_lt, Int.not_le] at h) <;> (try (exfalso; omega)) <;> (try (exfalso; first | exact absurd rfl h | exact absurd trivial h | omega; done))))
    all_goals exact end1 rfl rfl ⟨rfl, S.below⟩
  have hbt : b = false := by rw [hbk]; exact decide_eq_false hko
  subst hbt
  repeat' (first | refine WP_seq ?_ | refine WP_region ?_ | refine wl_nil ?_ | refine then_normal ?_ | refine WP_skip ?_ | refine WP_condF rfl ?_ | (refine WP_drawJ (fun w' => St w0 w' [rowOb fGContract 29 (.slice AL l.length cL) l, rowOb fGSpot 31 (.slice AP sp.length cP) sp, rowOb (fInt .i64) 3 (.slice AA out.length cA) out, rowOb fGSpot 31 vw W]) [1,2,3,5,6,7,8] [0,4,9] [10] (by kernel_rfl) (by decide) (by decide +kernel) (fun w' hb => (S.grow hb).keep [true, true, true, true]) ?_; intro w hb; replace S := S.grow hb; clear hb) | refine jq_nil ?_ | (refine g_move ?_; refine st_move rfl ?_) | (refine g_pick ?_; refine st_pickF rfl rfl ?_) | (refine g_b_neq ?_; refine st_val rfl (r_neq rfl rfl) ?_) | (refine g_b_lss ?_; refine st_val rfl (r_lss rfl rfl) ?_) | (refine g_b_gtr ?_; refine st_val rfl (r_gtr rfl rfl) ?_) | (refine g_un ?_; refine st_val rfl (r_not rfl) ?_) | (refine g_callV ?_; (refine st_callV rfl (r_call2 rfl rfl rfl) (same_is (b := true) (l := W) (m := W) (decide_eq_true rfl) (S.rdRow (D := fGSpot) (i := 3) rfl) (S.rdRow (D := fGSpot) (i := 4) rfl) (Nat.le_trans hWl (by decide)) (Nat.le_trans hWl (by decide))) ?_; intro w hb; replace S := S.grow hb; clear hb)) | (refine gj_move ?_; refine jq_val rfl (fun w' hJ => ⟨rfl⟩) ?_) | (refine gj_assign ?_; refine jq_val rfl (fun w' hJ => ⟨rfl⟩) ?_) | (refine gj_b_add ?_; (refine jq_val rfl (fun w' hJ => r_addN rfl rfl ?_ ?_) ?_; (first | omega | (simp <;> omega)); (first | omega | (simp <;> omega)))) | (refine jq_val rfl (fun w' hJ => r_sliceLo (hJ.rdRow (D := fGSpot) (i := 1) rfl) rfl rfl (by omega) (by omega)) ?_) | (refine jq_val rfl (fun w' hJ => r_sliceHi (hJ.rdRow (D := fGSpot) (i := 1) rfl) rfl rfl (by omega) (by omega)) ?_) | (refine wl_split rfl rfl (fun h => ?_) (fun h => ?_) <;> (fail_if_success (have hh : true = true := h)) <;> (fail_if_success (have hh : false = false := h)) <;> (try simp only [decide_eq_true_eq, decide_eq_false_iff_not, Bool.not_eq_true', Bool.not_eq_false', Int.not_lt, Int.not_le] at h) <;> (try (exfalso; omega)) <;> (try (exfalso; first | exact absurd rfl h | exact absurd trivial h | omega; done))))
  refine wj_valE rfl (r_lit0 (D := fGSpot) S) ?_
  rintro vn w ⟨-, S'⟩; refine ⟨S'.keep [true, true, true, true], ?_⟩; replace S := S'; clear S'
  refine wj_valE rfl (r_appendRd (i := 5) (l := []) (D := fGSpot) S rfl ((S.rdRow (D := fGSpot) (i := 1) rfl).cut (lo := 0) (hi := k.toNat) (by omega) (by omega)) rfl rfl rfl (by decide) one_sp (by simp; omega) (by simp; omega)) ?_
  rintro vn1 w ⟨-, S'⟩; refine ⟨S'.keep [true, true, true, true], ?_⟩; replace S := S'; clear S'
  refine wj_valE rfl (r_appendRd (i := 5) (l := [] ++ (sp.take k.toNat).drop 0) (D := fGSpot) S rfl ((S.rdRow (D := fGSpot) (i := 1) rfl).cut (lo := (k + 1).toNat) (hi := sp.length) (by omega) (by omega)) rfl rfl rfl (by decide) one_sp (by simp; omega) (by simp; omega)) ?_
  rintro vl w ⟨-, S'⟩; refine ⟨S'.keep [true, true, true, true], ?_⟩; replace S := S'; clear S'
  refine wj_nil ?_
  obtain ⟨ls, hls⟩ : ∃ ls, [] ++ (sp.take k.toNat).drop 0 ++ (sp.take sp.length).drop (k + 1).toNat = ls := ⟨_, rfl⟩
  have hle : ls = sp.take k.toNat ++ sp.drop (k.toNat + 1) := by rw [← hls, List.nil_append, List.take_length, List.drop_zero, show (k + 1).toNat = k.toNat + 1 by omega]
  have hll2 : ls.length ≤ 24 := by rw [hle, List.length_append, List.length_take, List.length_drop]; omega
  have hvl2 : validP ls = true := by
    unfold validP
    rw [decide_eq_true (by omega), Bool.true_and, hle, List.all_append]
    have h1 := List.all_eq_true.1 (Bool.and_eq_true_iff.1 hvp).2
    rw [List.all_eq_true.2 fun x hx => h1 x (List.mem_of_mem_take hx), List.all_eq_true.2 fun x hx => h1 x (List.mem_of_mem_drop hx)]
    rfl
  have hokl := okI_of hvl hvl2
  have hWs : spAt ls (cntI l ls) = W := by
    rw [hle, ← hW]
    exact cntS_less (by omega) (by rw [Int.toNat_of_nonneg rk.1, hout]; exact hko)
  replace S : St w0 w [rowOb fGContract 29 (.slice AL l.length cL) l, rowOb fGSpot 31 (.slice AP sp.length cP) sp, rowOb (fInt .i64) 3 (.slice AA out.length cA) out, rowOb fGSpot 31 vw W, rowOb fGSpot 31 vl ls] := by rw [← hls]; exact S.keep [true, true, true, true, false, true]
  repeat' (first | refine WP_seq ?_ | refine WP_region ?_ | refine wl_nil ?_ | refine then_normal ?_ | (refine g_move ?_; refine st_move rfl ?_) | (refine g_assign ?_; refine st_assign rfl ?_))
  refine st_callR rfl (r_call2 rfl rfl rfl) (counted_is (counted_t hokl) (S.rdRow (D := fGContract) (i := 0) rfl) (S.rdRow (D := fGSpot) (i := 4) rfl) (by omega) (by omega) (hG.mono S.below)) ?_; rintro _ w hb ⟨vc, rfl, hrow⟩; replace S := S.new hb hrow; clear hb hrow
  have hclL := cntI_len l ls
  repeat' (first | refine WP_seq ?_ | refine WP_region ?_ | refine wl_nil ?_ | refine then_normal ?_ | (refine g_move ?_; refine st_move rfl ?_) | (refine g_assign ?_; refine st_assign rfl ?_) | (refine g_extract ?_; refine st_val rfl (r_extract rfl rfl) ?_) | (refine g_indexAddr ?_; (refine st_val rfl (r_indexAddr (S.rdRow (D := fGSpot) (i := 1) rfl) rfl rfl ?_ ?_) ?_; (first | omega | (simp <;> omega)); (first | omega | (simp <;> omega)))) | (refine g_load ?_; (refine st_val rfl (r_loadElem (S.rdRow (D := fGSpot) (i := 1) rfl) rfl ?_ ?_) ?_; (first | omega | (simp <;> omega)); (first | omega | (simp <;> omega)))))
  refine st_callR rfl (r_call3 rfl rfl rfl rfl) (keptR_is (x := nth sp k) hWs rfl (S.rdRow (D := fGSpot) (i := 4) rfl) (S.rdRow (D := fInt .i64) (i := 5) rfl) (by omega) (by show (cntI l ls).length ≤ _; omega) (fun y hy => cntI_mem hy)) ?_; rintro _ w hb ⟨vz, rfl, hrow⟩; replace S := S.new hb hrow; clear hb hrow
  repeat' (first | refine WP_seq ?_ | refine WP_region ?_ | refine wl_nil ?_ | refine then_normal ?_ | refine WP_ret ?_ | (refine g_move ?_; refine st_move rfl ?_) | (refine g_assign ?_; refine st_assign rfl ?_) | (refine g_pick ?_; refine st_pickT rfl rfl ?_) | (refine g_b_eql ?_; refine st_val rfl (r_eql rfl rfl) ?_) | (refine g_extract ?_; refine st_val rfl (r_extract rfl rfl) ?_) | (refine g_callV ?_; (refine st_callV rfl (r_call2 rfl rfl rfl) (same_is (b := true) (l := W) (m := W) (decide_eq_true rfl) (S.rdRow (D := fGSpot) (i := 3) rfl) (S.rdRow (D := fGSpot) (i := 6) rfl) (Nat.le_trans hWl (by decide)) (Nat.le_trans hWl (by decide))) ?_; intro w hb; replace S := S.grow hb; clear hb)))
  all_goals exact end1 rfl rfl ⟨rfl, S.below⟩
end Go.Proofs.YteplelijhkmbkaaDoor
