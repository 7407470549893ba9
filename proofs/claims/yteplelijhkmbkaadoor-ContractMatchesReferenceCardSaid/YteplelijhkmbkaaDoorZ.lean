import Derived.Test.YteplelijhkmbkaaDoorY
namespace Go.Proofs.YteplelijhkmbkaaDoor
open Go Go.Gx Go.RowKit
set_option linter.unusedVariables false
set_option linter.unusedSimpArgs false

abbrev allW : GWeek := ⟨16777215, 16777215, 16777215, 16777215, 16777215, 16777215, 16777215⟩
abbrev exL : List GContract := [⟨1, 1, 1, 0, 3, 2, 600, 0, allW, ⟨0, 200000⟩⟩, ⟨2, 2, 1, 0, 5, 5, 300, 0, allW, ⟨0, 200000⟩⟩]
theorem ex_run {w0 : World} : CallsR Tryd.prog 32 #[] w0 (fun r w' => NewRow fGContract 29 w0 w' r exL) := by
  have S := St.start w0
  refine CallsR.mk ?_
  refine calls_enter Tryd.func32 rfl (by intro _ h; first | exact nomatch h.1 | (obtain ⟨_, h, _⟩ := h; exact nomatch h)) Tryd.ntmps32 rfl ?_
  repeat' (first | refine WP_seq ?_ | refine WP_region ?_ | refine wl_nil ?_ | refine then_normal ?_ | (refine g_assign ?_; refine st_assign rfl ?_) | (refine g_build ?_; first | refine st_val rfl (bd25_0_1_2_3_4_5_6 rfl rfl rfl rfl rfl rfl rfl) ?_ | refine st_val rfl (bd27_1 rfl) ?_ | refine st_val rfl (bd29_0_1_2_4_5_6_8_9 rfl rfl rfl rfl rfl rfl rfl rfl) ?_) | (refine g_load ?_; first | refine st_val rfl (r_loadVarA (i := 0) S rfl rfl rfl rfl) ?_ | refine st_val rfl (r_loadVarA (i := 1) S rfl rfl rfl rfl) ?_ | refine st_val rfl (r_loadVarA (i := 2) S rfl rfl rfl rfl) ?_) | (refine g_alloc ?_; refine st_valE rfl (r_alloc S) ?_; rintro _ w ⟨b, rfl, -, S'⟩; replace S := S'; clear S') | (refine g_store ?_; first | (refine st_skipE rfl (r_storeVar (i := 0) S rfl rfl rfl rfl (of_decide_eq_true rfl) (of_decide_eq_true rfl)) ?_; intro w S'; replace S := S'; clear S') | (refine st_skipE rfl (r_storeVar (i := 1) S rfl rfl rfl rfl (of_decide_eq_true rfl) (of_decide_eq_true rfl)) ?_; intro w S'; replace S := S'; clear S') | (refine st_skipE rfl (r_storeVar (i := 2) S rfl rfl rfl rfl (of_decide_eq_true rfl) (of_decide_eq_true rfl)) ?_; intro w S'; replace S := S'; clear S')))
  refine st_valE rfl (r_litF (D := fGContract) exL (fun y => .agg y.enc.toArray) S rfl rfl (fun _ => rfl) rfl (by decide) (by decide)) ?_
  rintro _ w ⟨bl, rfl, -, hcl, S'⟩; replace S := S'; clear S'
  repeat' (first | refine wl_nil ?_ | refine then_normal ?_ | refine WP_ret ?_ | (refine g_assign ?_; refine st_assign rfl ?_))
  exact end1 rfl rfl ⟨_, rfl, S.below, S.row (i := 3) rfl⟩
section
variable {l : List GContract} {sp : List GSpot} {t : Int} {r : List Int × Int} {v1 v2 : Value} {w0 : World}
theorem counted_is (h : countedI l sp = r) (hr1 : Rd fGContract.ty w0 v1 l) (hr2 : Rd fGSpot.ty w0 v2 sp) (hl : l.length ≤ 1000000000) (hl2 : sp.length ≤ 1000000000) (hG : TblAt w0) : CallsR Tryd.prog 17 #[v1, v2] w0 (RowE w0 r) := by rw [← h]; exact counted_run hr1 hr2 hl hl2 hG
theorem countedR_is (h : countedI l sp = r) (hr1 : Rd fGContract.ty w0 v1 l) (hr2 : Rd fGSpot.ty w0 v2 sp) (hl : l.length ≤ 1000000000) (hl2 : sp.length ≤ 1000000000) : CallsR Tryd.prog 18 #[v1, v2] w0 (RowE w0 r) := by rw [← h]; exact countedR_run hr1 hr2 hl hl2
theorem may_is (h : mayI l sp t = r) (hr1 : Rd fGContract.ty w0 v1 l) (hr2 : Rd fGSpot.ty w0 v2 sp) (hl : l.length ≤ 1000000000) (hl2 : sp.length ≤ 1000000000) (hG : TblAt w0) : CallsR Tryd.prog 22 #[v1, v2, .int .i64 t] w0 (RowE w0 r) := by rw [← h]; exact mayC_run hr1 hr2 hl hl2 hG
theorem mayR_is (h : mayI l sp t = r) (hr1 : Rd fGContract.ty w0 v1 l) (hr2 : Rd fGSpot.ty w0 v2 sp) (hl : l.length ≤ 1000000000) (hl2 : sp.length ≤ 1000000000) : CallsR Tryd.prog 23 #[v1, v2, .int .i64 t] w0 (RowE w0 r) := by rw [← h]; exact mayR_run hr1 hr2 hl hl2
theorem missing_is (h : missingI l sp t = r) (hr1 : Rd fGContract.ty w0 v1 l) (hr2 : Rd fGSpot.ty w0 v2 sp) (hl : l.length ≤ 1000000000) (hl2 : sp.length ≤ 1000000000) (hG : TblAt w0) : CallsR Tryd.prog 24 #[v1, v2, .int .i64 t] w0 (RowE w0 r) := by rw [← h]; exact missingC_run hr1 hr2 hl hl2 hG
theorem missingR_is (h : missingI l sp t = r) (hr1 : Rd fGContract.ty w0 v1 l) (hr2 : Rd fGSpot.ty w0 v2 sp) (hl : l.length ≤ 1000000000) (hl2 : sp.length ≤ 1000000000) : CallsR Tryd.prog 25 #[v1, v2, .int .i64 t] w0 (RowE w0 r) := by rw [← h]; exact missingR_run hr1 hr2 hl hl2
theorem reasonC_is {x : GSpot} {a b : Int} (h : reasonI l sp x = (a, b)) (hr1 : Rd fGContract.ty w0 v1 l) (hr2 : Rd fGSpot.ty w0 v2 sp) (hl : l.length ≤ 1000000000) (hl2 : sp.length ≤ 1000000000) (hG : TblAt w0) : CallsV Tryd.prog 26 #[v1, v2, .agg x.enc.toArray] w0 (.tuple #[.int .i64 a, .int .i64 b]) := by
  have h1 := reasonC_run (x := x) hr1 hr2 hl hl2 hG
  rw [h] at h1; exact h1
theorem reasonRR_is {x : GSpot} {a b : Int} (h : reasonI l sp x = (a, b)) (hr1 : Rd fGContract.ty w0 v1 l) (hr2 : Rd fGSpot.ty w0 v2 sp) (hl : l.length ≤ 1000000000) (hl2 : sp.length ≤ 1000000000) : CallsV Tryd.prog 27 #[v1, v2, .agg x.enc.toArray] w0 (.tuple #[.int .i64 a, .int .i64 b]) := by
  have h1 := reasonRR_run (x := x) hr1 hr2 hl hl2
  rw [h] at h1; exact h1
end
abbrev sp1 : List GSpot := [⟨1, 1000⟩, ⟨2, 1500⟩, ⟨2, 1600⟩]
abbrev sp2 : List GSpot := [⟨1, 0⟩, ⟨1, 10⟩, ⟨1, 20⟩, ⟨1, 86400⟩, ⟨1, 86410⟩]
abbrev sp3 : List GSpot := [⟨1, 10⟩, ⟨1, 10⟩]
abbrev sp4 : List GSpot := [⟨2, 1600⟩, ⟨1, 1000⟩]
theorem s1 : countedI exL sp1 = ([0, 2], 0) := by decide +kernel
theorem s2 : countedI exL sp2 = ([0, 1, 3], 0) := by decide +kernel
theorem s3 : countedI exL sp3 = ([0], 0) := by decide +kernel
theorem s4 : countedI exL sp4 = ([1, 0], 0) := by decide +kernel
theorem s5 : missingI exL sp4 200000 = ([2, 4], 0) := by decide +kernel
theorem s6 : missingI exL sp4 199999 = ([0, 0], 0) := by decide +kernel
theorem s7 : reasonI exL (sp2.take 4) ⟨1, 86410⟩ = (5, 0) := by decide +kernel
theorem s8 : reasonI exL (sp2.take 2) ⟨1, 20⟩ = (6, 0) := by decide +kernel
theorem s9 : mayI exL sp4 2100 = ([2], 0) := by decide +kernel
theorem s10 : countedI exL [⟨-1, 0⟩] = ([], 120) := by decide +kernel
theorem s11 : validC exL = true := by decide +kernel
theorem s12 : validC [default] = false := by decide +kernel
theorem s13 : validP sp4 = true := by decide +kernel
theorem wl_forget {P : Program} {n : Nat} {ops : Array Oper} {Q : Post} {σ : Nat → Value} {w : World} {rest : List Oper} (L : List (Nat × Value)) (h : Has σ L) (k : ∀ σ', Has σ' L → wl P n ops Q rest σ' w) : wl P n ops Q rest σ w := k σ h
set_option maxRecDepth 20000 in
set_option maxHeartbeats 2000000 in
theorem sane_spec {w0 : World} (hG : TblAt w0) : CallsV Tryd.prog 11 #[] w0 (.bool true) := by
  have S := St.start w0
  refine CallsV.mk ?_
  refine calls_enter Tryd.func11 rfl (by intro _ h; first | exact nomatch h.1 | (obtain ⟨_, h, _⟩ := h; exact nomatch h)) Tryd.ntmps11 rfl ?_
  repeat' (first | refine WP_seq ?_ | refine WP_region ?_ | refine wl_nil ?_ | refine then_normal ?_ | (refine g_assign ?_; refine st_assign rfl ?_))
  refine st_callR rfl (r_call0 rfl) ex_run ?_
  rintro vl w hb hrow; replace S := S.new hb hrow; clear hb hrow
  repeat' (first | refine WP_seq ?_ | refine WP_region ?_ | refine wl_nil ?_ | refine then_normal ?_ | (refine g_move ?_; refine st_move rfl ?_) | (refine g_assign ?_; refine st_assign rfl ?_) | (refine g_build ?_; refine st_val rfl (bd31_0_1 rfl rfl) ?_))
  refine st_valE rfl (r_litF (D := fGSpot) sp1 (fun y => .agg y.enc.toArray) S rfl rfl (fun _ => rfl) rfl (by decide) (by decide)) ?_
  rintro _ w ⟨k1, rfl, -, -, S'⟩; replace S := S'; clear S'
  skip
  refine st_callR rfl (r_call2 rfl rfl rfl) (counted_is s1 (S.rdRow (D := fGContract) (i := 0) rfl) (S.rdRow (D := fGSpot) (i := 1) rfl) (by decide) (by decide) (hG.mono S.below)) ?_
  rintro _ w hb ⟨va, rfl, hrow⟩; replace S := S.new hb hrow; clear hb hrow
  repeat' (first | refine WP_seq ?_ | refine WP_region ?_ | refine wl_nil ?_ | refine then_normal ?_ | (refine g_move ?_; refine st_move rfl ?_) | (refine g_assign ?_; refine st_assign rfl ?_) | (refine g_build ?_; first | refine st_val rfl (bd31_0 rfl) ?_ | refine st_val rfl (bd31_0_1 rfl rfl) ?_) | (refine g_extract ?_; refine st_val rfl (r_extract rfl rfl) ?_))
  refine st_valE rfl (r_litF (D := fGSpot) sp2 (fun y => .agg y.enc.toArray) S rfl rfl (fun _ => rfl) rfl (by decide) (by decide)) ?_
  rintro _ w ⟨k2, rfl, -, -, S'⟩; replace S := S'; clear S'
  repeat' (first | refine WP_seq ?_ | refine WP_region ?_ | refine wl_nil ?_ | refine then_normal ?_ | (refine g_move ?_; refine st_move rfl ?_) | (refine g_assign ?_; refine st_assign rfl ?_))
  refine st_callR rfl (r_call2 rfl rfl rfl) (counted_is s2 (S.rdRow (D := fGContract) (i := 0) rfl) (S.rdRow (D := fGSpot) (i := 3) rfl) (by decide) (by decide) (hG.mono S.below)) ?_
  rintro _ w hb ⟨vb, rfl, hrow⟩; replace S := S.new hb hrow; clear hb hrow
  repeat' (first | refine WP_seq ?_ | refine WP_region ?_ | refine wl_nil ?_ | refine then_normal ?_ | (refine g_move ?_; refine st_move rfl ?_) | (refine g_assign ?_; refine st_assign rfl ?_) | (refine g_build ?_; refine st_val rfl (bd31_0_1 rfl rfl) ?_) | (refine g_extract ?_; refine st_val rfl (r_extract rfl rfl) ?_))
  refine st_valE rfl (r_litF (D := fGSpot) sp3 (fun y => .agg y.enc.toArray) S rfl rfl (fun _ => rfl) rfl (by decide) (by decide)) ?_
  rintro _ w ⟨k3, rfl, -, -, S'⟩; replace S := S'; clear S'
  skip
  refine st_callR rfl (r_call2 rfl rfl rfl) (counted_is s3 (S.rdRow (D := fGContract) (i := 0) rfl) (S.rdRow (D := fGSpot) (i := 5) rfl) (by decide) (by decide) (hG.mono S.below)) ?_
  rintro _ w hb ⟨vc, rfl, hrow⟩; replace S := S.new hb hrow; clear hb hrow
  repeat' (first | refine WP_seq ?_ | refine WP_region ?_ | refine wl_nil ?_ | refine then_normal ?_ | (refine g_move ?_; refine st_move rfl ?_) | (refine g_assign ?_; refine st_assign rfl ?_) | (refine g_build ?_; refine st_val rfl (bd31_0_1 rfl rfl) ?_) | (refine g_extract ?_; refine st_val rfl (r_extract rfl rfl) ?_))
  refine st_valE rfl (r_litF (D := fGSpot) sp4 (fun y => .agg y.enc.toArray) S rfl rfl (fun _ => rfl) rfl (by decide) (by decide)) ?_
  rintro _ w ⟨k4, rfl, -, -, S'⟩; replace S := S'; clear S'
  repeat' (first | refine WP_seq ?_ | refine WP_region ?_ | refine wl_nil ?_ | refine then_normal ?_ | (refine g_move ?_; refine st_move rfl ?_) | (refine g_assign ?_; refine st_assign rfl ?_))
  refine st_callR rfl (r_call2 rfl rfl rfl) (counted_is s4 (S.rdRow (D := fGContract) (i := 0) rfl) (S.rdRow (D := fGSpot) (i := 7) rfl) (by decide) (by decide) (hG.mono S.below)) ?_
  rintro _ w hb ⟨vd, rfl, hrow⟩; replace S := S.new hb hrow; clear hb hrow
  repeat' (first | refine WP_seq ?_ | refine WP_region ?_ | refine wl_nil ?_ | refine then_normal ?_ | (refine g_move ?_; refine st_move rfl ?_) | (refine g_assign ?_; refine st_assign rfl ?_) | (refine g_extract ?_; refine st_val rfl (r_extract rfl rfl) ?_))
  refine st_callR rfl (r_call3 rfl rfl rfl rfl) (missing_is s5 (S.rdRow (D := fGContract) (i := 0) rfl) (S.rdRow (D := fGSpot) (i := 7) rfl) (by decide) (by decide) (hG.mono S.below)) ?_
  rintro _ w hb ⟨vo, rfl, hrow⟩; replace S := S.new hb hrow; clear hb hrow
  repeat' (first | refine WP_seq ?_ | refine WP_region ?_ | refine wl_nil ?_ | refine then_normal ?_ | (refine g_move ?_; refine st_move rfl ?_) | (refine g_assign ?_; refine st_assign rfl ?_) | (refine g_extract ?_; refine st_val rfl (r_extract rfl rfl) ?_))
  refine st_callR rfl (r_call3 rfl rfl rfl rfl) (missing_is s6 (S.rdRow (D := fGContract) (i := 0) rfl) (S.rdRow (D := fGSpot) (i := 7) rfl) (by decide) (by decide) (hG.mono S.below)) ?_
  rintro _ w hb ⟨vn, rfl, hrow⟩; replace S := S.new hb hrow; clear hb hrow
  repeat' (first | refine WP_seq ?_ | refine wl_nil ?_ | refine then_normal ?_ | refine WP_draw (by kernel_rfl) (by kernel_rfl) ?_ | (refine ql_nil ?_; intro w hb; replace S := S.grow hb; clear hb) | (refine g_move ?_; refine st_move rfl ?_) | (refine g_assign ?_; refine st_assign rfl ?_) | (refine g_extract ?_; refine st_val rfl (r_extract rfl rfl) ?_) | (refine gq_move ?_; refine q_move rfl ?_) | (refine gq_assign ?_; refine q_assign rfl ?_) | (refine gq_extract ?_; refine q_val rfl (fun w' hb => r_extract rfl rfl) ?_) | (refine gq_indexAddr ?_; (refine q_val rfl (fun w' hb => r_indexAddr ((S.grow hb).rdRow (D := fGSpot) (i := 3) rfl) rfl rfl ?_ ?_) ?_; (first | omega | (simp <;> omega)); (first | omega | (simp <;> omega)))) | (refine gq_load ?_; (refine q_val rfl (fun w' hb => r_loadElem ((S.grow hb).rdRow (D := fGSpot) (i := 3) rfl) rfl ?_ ?_) ?_; (first | omega | (simp <;> omega)); (first | omega | (simp <;> omega)))) | (refine gq_callV ?_; refine q_callV rfl (fun w' hb => r_call3 rfl rfl rfl rfl) (fun w' hb => reasonC_is s7 ((S.grow hb).rdRow (D := fGContract) (i := 0) rfl) (((S.grow hb).rdRow (D := fGSpot) (i := 3) rfl).cut (lo := 0) (hi := 4) (by decide) (by decide)) (by decide) (by decide) (hG.mono (S.grow hb).below)) ?_) | (refine q_val rfl (fun w' hb => r_sliceHi ((S.grow hb).rdRow (D := fGSpot) (i := 3) rfl) rfl rfl (by decide) (by decide)) ?_))
  repeat' (first | refine WP_seq ?_ | refine WP_region ?_ | refine then_normal ?_ | (refine ql_nil ?_; intro w hb; replace S := S.grow hb; clear hb) | (refine g_move ?_; refine st_move rfl ?_) | (refine gq_move ?_; refine q_move rfl ?_) | (refine gq_assign ?_; refine q_assign rfl ?_) | (refine gq_extract ?_; refine q_val rfl (fun w' hb => r_extract rfl rfl) ?_) | (refine gq_callV ?_; refine q_callV rfl (fun w' hb => r_call3 rfl rfl rfl rfl) (fun w' hb => reasonC_is s8 ((S.grow hb).rdRow (D := fGContract) (i := 0) rfl) (((S.grow hb).rdRow (D := fGSpot) (i := 3) rfl).cut (lo := 0) (hi := 2) (by decide) (by decide)) (by decide) (by decide) (hG.mono (S.grow hb).below)) ?_))
  skip
  refine st_callR rfl (r_call3 rfl rfl rfl rfl) (may_is s9 (S.rdRow (D := fGContract) (i := 0) rfl) (S.rdRow (D := fGSpot) (i := 7) rfl) (by decide) (by decide) (hG.mono S.below)) ?_
  rintro _ w hb ⟨vm, rfl, hrow⟩; replace S := S.new hb hrow; clear hb hrow
  repeat' (first | refine WP_seq ?_ | refine WP_region ?_ | refine wl_nil ?_ | refine then_normal ?_ | (refine g_move ?_; refine st_move rfl ?_) | (refine g_assign ?_; refine st_assign rfl ?_) | (refine g_build ?_; refine st_val rfl (bd31_0 rfl) ?_) | (refine g_extract ?_; refine st_val rfl (r_extract rfl rfl) ?_))
  refine st_valE rfl (r_litF (D := fGSpot) [⟨-1, 0⟩] (fun y => .agg y.enc.toArray) S rfl rfl (fun _ => rfl) rfl (by decide) (by decide)) ?_
  rintro _ w ⟨k5, rfl, -, -, S'⟩; replace S := S'; clear S'
  skip
  refine st_callR rfl (r_call2 rfl rfl rfl) (counted_is s10 (S.rdRow (D := fGContract) (i := 0) rfl) (S.rdRow (D := fGSpot) (i := 12) rfl) (by decide) (by decide) (hG.mono S.below)) ?_
  rintro _ w hb ⟨vp, rfl, hrow⟩; replace S := S.new hb hrow; clear hb hrow
  refine wl_forget [(1, vl), (2, va), (3, .int .i64 0), (5, vb), (6, .int .i64 0), (7, vc), (8, .int .i64 0), (9, .slice (some ⟨k4, 0, none⟩) 2 2), (10, vd), (11, .int .i64 0), (12, vo), (13, .int .i64 0), (14, vn), (15, .int .i64 0), (16, .int .i64 5), (17, .int .i64 0), (18, .int .i64 6), (19, .int .i64 0), (20, vm), (21, .int .i64 0), (107, .tuple #[vp, .int .i64 120])] ⟨rfl, rfl, rfl, rfl, rfl, rfl, rfl, rfl, rfl, rfl, rfl, rfl, rfl, rfl, rfl, rfl, rfl, rfl, rfl, rfl, rfl, trivial⟩ ?_
  intro σ hs
  refine wl_has hs ?_
  replace S : St w0 _ [rowOb fGContract 29 vl exL, rowOb fGSpot 31 (.slice (some ⟨k1, 0, none⟩) 3 3) sp1, rowOb (fInt .i64) 3 va [0, 2], rowOb fGSpot 31 (.slice (some ⟨k2, 0, none⟩) 5 5) sp2, rowOb (fInt .i64) 3 vb [0, 1, 3], rowOb fGSpot 31 (.slice (some ⟨k3, 0, none⟩) 2 2) sp3, rowOb (fInt .i64) 3 vc [0], rowOb fGSpot 31 (.slice (some ⟨k4, 0, none⟩) 2 2) sp4, rowOb (fInt .i64) 3 vd [1, 0], rowOb (fInt .i64) 3 vo [2, 4], rowOb (fInt .i64) 3 vn [0, 0], rowOb (fInt .i64) 3 vm [2]] := S.sub (by first | exact List.Sublist.refl _ | exact List.sublist_append_left _ _ | exact (List.sublist_append_left _ _).trans (List.sublist_append_left _ _))
  repeat' (first | refine WP_seq ?_ | refine WP_region ?_ | refine wl_nil ?_ | refine then_normal ?_ | refine WP_skip ?_ | refine WP_condF rfl ?_ | (refine g_move ?_; refine st_move rfl ?_) | (refine g_assign ?_; refine st_assign rfl ?_) | (refine g_pick ?_; refine st_pickF rfl rfl ?_) | (refine g_b_neq ?_; refine st_val rfl (r_neq rfl rfl) ?_) | (refine g_extract ?_; refine st_val rfl (r_extract rfl rfl) ?_))
  refine wl_forget [(1, vl), (2, va), (3, .int .i64 0), (5, vb), (6, .int .i64 0), (7, vc), (8, .int .i64 0), (9, .slice (some ⟨k4, 0, none⟩) 2 2), (10, vd), (11, .int .i64 0), (12, vo), (13, .int .i64 0), (14, vn), (15, .int .i64 0), (16, .int .i64 5), (17, .int .i64 0), (18, .int .i64 6), (19, .int .i64 0), (20, vm), (21, .int .i64 0), (148, va)] ⟨rfl, rfl, rfl, rfl, rfl, rfl, rfl, rfl, rfl, rfl, rfl, rfl, rfl, rfl, rfl, rfl, rfl, rfl, rfl, rfl, rfl, trivial⟩ ?_
  intro σ hs
  refine wl_has hs ?_
  replace S : St w0 _ [rowOb fGContract 29 vl exL, rowOb fGSpot 31 (.slice (some ⟨k1, 0, none⟩) 3 3) sp1, rowOb (fInt .i64) 3 va [0, 2], rowOb fGSpot 31 (.slice (some ⟨k2, 0, none⟩) 5 5) sp2, rowOb (fInt .i64) 3 vb [0, 1, 3], rowOb fGSpot 31 (.slice (some ⟨k3, 0, none⟩) 2 2) sp3, rowOb (fInt .i64) 3 vc [0], rowOb fGSpot 31 (.slice (some ⟨k4, 0, none⟩) 2 2) sp4, rowOb (fInt .i64) 3 vd [1, 0], rowOb (fInt .i64) 3 vo [2, 4], rowOb (fInt .i64) 3 vn [0, 0], rowOb (fInt .i64) 3 vm [2]] := S.sub (by first | exact List.Sublist.refl _ | exact List.sublist_append_left _ _ | exact (List.sublist_append_left _ _).trans (List.sublist_append_left _ _))
  refine st_valE rfl (r_litF (D := fInt .i64) [0, 2] (Value.int .i64) S rfl rfl (fun _ => rfl) rfl (by decide) (by decide)) ?_
  rintro _ w ⟨bl, rfl, -, -, S'⟩; replace S := S'; clear S'
  repeat' (first | (refine g_move ?_; refine st_move rfl ?_) | (refine g_callV ?_; (refine st_callV rfl (r_call2 rfl rfl rfl) (ints_is (b := true) (by decide) (S.rdRow (D := fInt .i64) (i := 2) rfl) (S.rdRow (D := fInt .i64) (i := 12) rfl) (by decide) (by decide)) ?_; intro w hb; replace S := S.grow hb; clear hb)))
  refine wl_forget [(1, vl), (2, va), (3, .int .i64 0), (5, vb), (6, .int .i64 0), (7, vc), (8, .int .i64 0), (9, .slice (some ⟨k4, 0, none⟩) 2 2), (10, vd), (11, .int .i64 0), (12, vo), (13, .int .i64 0), (14, vn), (15, .int .i64 0), (16, .int .i64 5), (17, .int .i64 0), (18, .int .i64 6), (19, .int .i64 0), (20, vm), (21, .int .i64 0), (151, .bool true), (152, vb)] ⟨rfl, rfl, rfl, rfl, rfl, rfl, rfl, rfl, rfl, rfl, rfl, rfl, rfl, rfl, rfl, rfl, rfl, rfl, rfl, rfl, rfl, rfl, trivial⟩ ?_
  intro σ hs
  refine wl_has hs ?_
  replace S : St w0 _ [rowOb fGContract 29 vl exL, rowOb fGSpot 31 (.slice (some ⟨k1, 0, none⟩) 3 3) sp1, rowOb (fInt .i64) 3 va [0, 2], rowOb fGSpot 31 (.slice (some ⟨k2, 0, none⟩) 5 5) sp2, rowOb (fInt .i64) 3 vb [0, 1, 3], rowOb fGSpot 31 (.slice (some ⟨k3, 0, none⟩) 2 2) sp3, rowOb (fInt .i64) 3 vc [0], rowOb fGSpot 31 (.slice (some ⟨k4, 0, none⟩) 2 2) sp4, rowOb (fInt .i64) 3 vd [1, 0], rowOb (fInt .i64) 3 vo [2, 4], rowOb (fInt .i64) 3 vn [0, 0], rowOb (fInt .i64) 3 vm [2]] := S.sub (by first | exact List.Sublist.refl _ | exact List.sublist_append_left _ _ | exact (List.sublist_append_left _ _).trans (List.sublist_append_left _ _))
  refine st_valE rfl (r_litF (D := fInt .i64) [0, 1, 3] (Value.int .i64) S rfl rfl (fun _ => rfl) rfl (by decide) (by decide)) ?_
  rintro _ w ⟨bl, rfl, -, -, S'⟩; replace S := S'; clear S'
  repeat' (first | (refine g_move ?_; refine st_move rfl ?_) | (refine g_pick ?_; refine st_pickT rfl rfl ?_) | (refine g_callV ?_; (refine st_callV rfl (r_call2 rfl rfl rfl) (ints_is (b := true) (by decide) (S.rdRow (D := fInt .i64) (i := 4) rfl) (S.rdRow (D := fInt .i64) (i := 12) rfl) (by decide) (by decide)) ?_; intro w hb; replace S := S.grow hb; clear hb)))
  refine wl_forget [(1, vl), (2, va), (3, .int .i64 0), (5, vb), (6, .int .i64 0), (7, vc), (8, .int .i64 0), (9, .slice (some ⟨k4, 0, none⟩) 2 2), (10, vd), (11, .int .i64 0), (12, vo), (13, .int .i64 0), (14, vn), (15, .int .i64 0), (16, .int .i64 5), (17, .int .i64 0), (18, .int .i64 6), (19, .int .i64 0), (20, vm), (21, .int .i64 0), (156, .bool true), (157, vc)] ⟨rfl, rfl, rfl, rfl, rfl, rfl, rfl, rfl, rfl, rfl, rfl, rfl, rfl, rfl, rfl, rfl, rfl, rfl, rfl, rfl, rfl, rfl, trivial⟩ ?_
  intro σ hs
  refine wl_has hs ?_
  replace S : St w0 _ [rowOb fGContract 29 vl exL, rowOb fGSpot 31 (.slice (some ⟨k1, 0, none⟩) 3 3) sp1, rowOb (fInt .i64) 3 va [0, 2], rowOb fGSpot 31 (.slice (some ⟨k2, 0, none⟩) 5 5) sp2, rowOb (fInt .i64) 3 vb [0, 1, 3], rowOb fGSpot 31 (.slice (some ⟨k3, 0, none⟩) 2 2) sp3, rowOb (fInt .i64) 3 vc [0], rowOb fGSpot 31 (.slice (some ⟨k4, 0, none⟩) 2 2) sp4, rowOb (fInt .i64) 3 vd [1, 0], rowOb (fInt .i64) 3 vo [2, 4], rowOb (fInt .i64) 3 vn [0, 0], rowOb (fInt .i64) 3 vm [2]] := S.sub (by first | exact List.Sublist.refl _ | exact List.sublist_append_left _ _ | exact (List.sublist_append_left _ _).trans (List.sublist_append_left _ _))
  refine st_valE rfl (r_litF (D := fInt .i64) [0] (Value.int .i64) S rfl rfl (fun _ => rfl) rfl (by decide) (by decide)) ?_
  rintro _ w ⟨bl, rfl, -, -, S'⟩; replace S := S'; clear S'
  repeat' (first | (refine g_move ?_; refine st_move rfl ?_) | (refine g_pick ?_; refine st_pickT rfl rfl ?_) | (refine g_callV ?_; (refine st_callV rfl (r_call2 rfl rfl rfl) (ints_is (b := true) (by decide) (S.rdRow (D := fInt .i64) (i := 6) rfl) (S.rdRow (D := fInt .i64) (i := 12) rfl) (by decide) (by decide)) ?_; intro w hb; replace S := S.grow hb; clear hb)))
  refine wl_forget [(1, vl), (2, va), (3, .int .i64 0), (5, vb), (6, .int .i64 0), (7, vc), (8, .int .i64 0), (9, .slice (some ⟨k4, 0, none⟩) 2 2), (10, vd), (11, .int .i64 0), (12, vo), (13, .int .i64 0), (14, vn), (15, .int .i64 0), (16, .int .i64 5), (17, .int .i64 0), (18, .int .i64 6), (19, .int .i64 0), (20, vm), (21, .int .i64 0), (161, .bool true), (162, vd)] ⟨rfl, rfl, rfl, rfl, rfl, rfl, rfl, rfl, rfl, rfl, rfl, rfl, rfl, rfl, rfl, rfl, rfl, rfl, rfl, rfl, rfl, rfl, trivial⟩ ?_
  intro σ hs
  refine wl_has hs ?_
  replace S : St w0 _ [rowOb fGContract 29 vl exL, rowOb fGSpot 31 (.slice (some ⟨k1, 0, none⟩) 3 3) sp1, rowOb (fInt .i64) 3 va [0, 2], rowOb fGSpot 31 (.slice (some ⟨k2, 0, none⟩) 5 5) sp2, rowOb (fInt .i64) 3 vb [0, 1, 3], rowOb fGSpot 31 (.slice (some ⟨k3, 0, none⟩) 2 2) sp3, rowOb (fInt .i64) 3 vc [0], rowOb fGSpot 31 (.slice (some ⟨k4, 0, none⟩) 2 2) sp4, rowOb (fInt .i64) 3 vd [1, 0], rowOb (fInt .i64) 3 vo [2, 4], rowOb (fInt .i64) 3 vn [0, 0], rowOb (fInt .i64) 3 vm [2]] := S.sub (by first | exact List.Sublist.refl _ | exact List.sublist_append_left _ _ | exact (List.sublist_append_left _ _).trans (List.sublist_append_left _ _))
  refine st_valE rfl (r_litF (D := fInt .i64) [1, 0] (Value.int .i64) S rfl rfl (fun _ => rfl) rfl (by decide) (by decide)) ?_
  rintro _ w ⟨bl, rfl, -, -, S'⟩; replace S := S'; clear S'
  repeat' (first | refine WP_seq ?_ | refine WP_region ?_ | refine wl_nil ?_ | refine then_normal ?_ | (refine g_move ?_; refine st_move rfl ?_) | (refine g_assign ?_; refine st_assign rfl ?_) | (refine g_pick ?_; refine st_pickT rfl rfl ?_) | (refine g_callV ?_; (refine st_callV rfl (r_call2 rfl rfl rfl) (ints_is (b := true) (by decide) (S.rdRow (D := fInt .i64) (i := 8) rfl) (S.rdRow (D := fInt .i64) (i := 12) rfl) (by decide) (by decide)) ?_; intro w hb; replace S := S.grow hb; clear hb)))
  refine wl_forget [(1, vl), (9, .slice (some ⟨k4, 0, none⟩) 2 2), (10, vd), (12, vo), (14, vn), (16, .int .i64 5), (18, .int .i64 6), (20, vm), (24, .bool true), (166, vo)] ⟨rfl, rfl, rfl, rfl, rfl, rfl, rfl, rfl, rfl, rfl, trivial⟩ ?_
  intro σ hs
  refine wl_has hs ?_
  replace S : St w0 _ [rowOb fGContract 29 vl exL, rowOb fGSpot 31 (.slice (some ⟨k1, 0, none⟩) 3 3) sp1, rowOb (fInt .i64) 3 va [0, 2], rowOb fGSpot 31 (.slice (some ⟨k2, 0, none⟩) 5 5) sp2, rowOb (fInt .i64) 3 vb [0, 1, 3], rowOb fGSpot 31 (.slice (some ⟨k3, 0, none⟩) 2 2) sp3, rowOb (fInt .i64) 3 vc [0], rowOb fGSpot 31 (.slice (some ⟨k4, 0, none⟩) 2 2) sp4, rowOb (fInt .i64) 3 vd [1, 0], rowOb (fInt .i64) 3 vo [2, 4], rowOb (fInt .i64) 3 vn [0, 0], rowOb (fInt .i64) 3 vm [2]] := S.sub (by first | exact List.Sublist.refl _ | exact List.sublist_append_left _ _ | exact (List.sublist_append_left _ _).trans (List.sublist_append_left _ _))
  refine st_valE rfl (r_litF (D := fInt .i64) [2, 4] (Value.int .i64) S rfl rfl (fun _ => rfl) rfl (by decide) (by decide)) ?_
  rintro _ w ⟨bl, rfl, -, -, S'⟩; replace S := S'; clear S'
  repeat' (first | (refine g_move ?_; refine st_move rfl ?_) | (refine g_callV ?_; (refine st_callV rfl (r_call2 rfl rfl rfl) (ints_is (b := true) (by decide) (S.rdRow (D := fInt .i64) (i := 9) rfl) (S.rdRow (D := fInt .i64) (i := 12) rfl) (by decide) (by decide)) ?_; intro w hb; replace S := S.grow hb; clear hb)))
  refine wl_forget [(1, vl), (9, .slice (some ⟨k4, 0, none⟩) 2 2), (10, vd), (12, vo), (14, vn), (16, .int .i64 5), (18, .int .i64 6), (20, vm), (24, .bool true), (169, .bool true), (170, vn)] ⟨rfl, rfl, rfl, rfl, rfl, rfl, rfl, rfl, rfl, rfl, rfl, trivial⟩ ?_
  intro σ hs
  refine wl_has hs ?_
  replace S : St w0 _ [rowOb fGContract 29 vl exL, rowOb fGSpot 31 (.slice (some ⟨k1, 0, none⟩) 3 3) sp1, rowOb (fInt .i64) 3 va [0, 2], rowOb fGSpot 31 (.slice (some ⟨k2, 0, none⟩) 5 5) sp2, rowOb (fInt .i64) 3 vb [0, 1, 3], rowOb fGSpot 31 (.slice (some ⟨k3, 0, none⟩) 2 2) sp3, rowOb (fInt .i64) 3 vc [0], rowOb fGSpot 31 (.slice (some ⟨k4, 0, none⟩) 2 2) sp4, rowOb (fInt .i64) 3 vd [1, 0], rowOb (fInt .i64) 3 vo [2, 4], rowOb (fInt .i64) 3 vn [0, 0], rowOb (fInt .i64) 3 vm [2]] := S.sub (by first | exact List.Sublist.refl _ | exact List.sublist_append_left _ _ | exact (List.sublist_append_left _ _).trans (List.sublist_append_left _ _))
  refine st_valE rfl (r_litF (D := fInt .i64) [0, 0] (Value.int .i64) S rfl rfl (fun _ => rfl) rfl (by decide) (by decide)) ?_
  rintro _ w ⟨bl, rfl, -, -, S'⟩; replace S := S'; clear S'
  repeat' (first | refine WP_seq ?_ | refine WP_region ?_ | refine wl_nil ?_ | refine then_normal ?_ | (refine g_move ?_; refine st_move rfl ?_) | (refine g_assign ?_; refine st_assign rfl ?_) | (refine g_pick ?_; refine st_pickT rfl rfl ?_) | (refine g_b_eql ?_; refine st_val rfl (r_eql rfl rfl) ?_) | (refine g_callV ?_; (refine st_callV rfl (r_call2 rfl rfl rfl) (ints_is (b := true) (by decide) (S.rdRow (D := fInt .i64) (i := 10) rfl) (S.rdRow (D := fInt .i64) (i := 12) rfl) (by decide) (by decide)) ?_; intro w hb; replace S := S.grow hb; clear hb)))
  refine wl_forget [(1, vl), (9, .slice (some ⟨k4, 0, none⟩) 2 2), (186, .bool true), (187, vm)] ⟨rfl, rfl, rfl, rfl, trivial⟩ ?_
  intro σ hs
  refine wl_has hs ?_
  replace S : St w0 _ [rowOb fGContract 29 vl exL, rowOb fGSpot 31 (.slice (some ⟨k1, 0, none⟩) 3 3) sp1, rowOb (fInt .i64) 3 va [0, 2], rowOb fGSpot 31 (.slice (some ⟨k2, 0, none⟩) 5 5) sp2, rowOb (fInt .i64) 3 vb [0, 1, 3], rowOb fGSpot 31 (.slice (some ⟨k3, 0, none⟩) 2 2) sp3, rowOb (fInt .i64) 3 vc [0], rowOb fGSpot 31 (.slice (some ⟨k4, 0, none⟩) 2 2) sp4, rowOb (fInt .i64) 3 vd [1, 0], rowOb (fInt .i64) 3 vo [2, 4], rowOb (fInt .i64) 3 vn [0, 0], rowOb (fInt .i64) 3 vm [2]] := S.sub (by first | exact List.Sublist.refl _ | exact List.sublist_append_left _ _ | exact (List.sublist_append_left _ _).trans (List.sublist_append_left _ _))
  refine st_valE rfl (r_litF (D := fInt .i64) [2] (Value.int .i64) S rfl rfl (fun _ => rfl) rfl (by decide) (by decide)) ?_
  rintro _ w ⟨bl, rfl, -, -, S'⟩; replace S := S'; clear S'
  repeat' (first | (refine g_move ?_; refine st_move rfl ?_) | (refine g_pick ?_; refine st_pickT rfl rfl ?_) | (refine g_build ?_; refine st_val rfl (bd29_ ) ?_) | (refine g_callV ?_; first | (refine st_callV rfl (r_call2 rfl rfl rfl) (ints_is (b := true) (by decide) (S.rdRow (D := fInt .i64) (i := 11) rfl) (S.rdRow (D := fInt .i64) (i := 12) rfl) (by decide) (by decide)) ?_; intro w hb; replace S := S.grow hb; clear hb) | (refine st_callV rfl (r_call1 rfl rfl) (valid_is s11 (S.rdRow (D := fGContract) (i := 0) rfl) (by decide)) ?_; intro w hb; replace S := S.grow hb; clear hb)))
  refine wl_forget [(1, vl), (9, .slice (some ⟨k4, 0, none⟩) 2 2), (195, .bool true), (196, .agg (GContract.enc default).toArray)] ⟨rfl, rfl, rfl, rfl, trivial⟩ ?_
  intro σ hs
  refine wl_has hs ?_
  replace S : St w0 _ [rowOb fGContract 29 vl exL, rowOb fGSpot 31 (.slice (some ⟨k1, 0, none⟩) 3 3) sp1, rowOb (fInt .i64) 3 va [0, 2], rowOb fGSpot 31 (.slice (some ⟨k2, 0, none⟩) 5 5) sp2, rowOb (fInt .i64) 3 vb [0, 1, 3], rowOb fGSpot 31 (.slice (some ⟨k3, 0, none⟩) 2 2) sp3, rowOb (fInt .i64) 3 vc [0], rowOb fGSpot 31 (.slice (some ⟨k4, 0, none⟩) 2 2) sp4, rowOb (fInt .i64) 3 vd [1, 0], rowOb (fInt .i64) 3 vo [2, 4], rowOb (fInt .i64) 3 vn [0, 0], rowOb (fInt .i64) 3 vm [2]] := S.sub (by first | exact List.Sublist.refl _ | exact List.sublist_append_left _ _ | exact (List.sublist_append_left _ _).trans (List.sublist_append_left _ _))
  refine st_valE rfl (r_litF (D := fGContract) [default] (fun y => .agg y.enc.toArray) S rfl rfl (fun _ => rfl) rfl (by decide) (by decide)) ?_
  rintro _ w ⟨bl, rfl, -, -, S'⟩; replace S := S'; clear S'
  repeat' (first | refine wl_nil ?_ | refine then_normal ?_ | refine WP_ret ?_ | (refine g_move ?_; refine st_move rfl ?_) | (refine g_assign ?_; refine st_assign rfl ?_) | (refine g_pick ?_; refine st_pickT rfl rfl ?_) | (refine g_un ?_; refine st_val rfl (r_not rfl) ?_) | (refine g_callV ?_; first | (refine st_callV rfl (r_call1 rfl rfl) (valid_is s12 (S.rdRow (D := fGContract) (i := 12) rfl) (by decide)) ?_; intro w hb; replace S := S.grow hb; clear hb) | (refine st_callV rfl (r_call1 rfl rfl) (validSpots_is s13 (S.rdRow (D := fGSpot) (i := 7) rfl) (by decide)) ?_; intro w hb; replace S := S.grow hb; clear hb)))
  exact end1 rfl rfl ⟨rfl, S.below⟩
end Go.Proofs.YteplelijhkmbkaaDoor
