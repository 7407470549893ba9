import Derived.Test.YtaoicaldhllbfaaJ
namespace Go.Proofs.Ytaoicaldhllbfaa
open Go Go.Gx Go.RowKit
set_option linter.unusedVariables false
set_option linter.unusedSimpArgs false

structure Mk where
  t : Int
  l : List GRequest
  arr : List Int
  ans : List Int
def mkReq (s : Stry) (x : GArr5Int) (t : Int) : GRequest := ⟨pickI x.a0 3, s.shown (pickI x.a0 3) (t - pickI x.a2 60), 1 + pickI x.a4 400, s.shown 3 t⟩
/-- The first i requests of a story. -/
def mkS (s : Stry) : Nat → Mk
  | 0 => ⟨60, [], [], []⟩
  | i + 1 =>
    let m := mkS s i
    let x := nth s.reqs (i : Int)
    let t := m.t + pickI x.a1 250
    ⟨t, m.l ++ [mkReq s x t], m.arr ++ [t], m.ans ++ [t + pickI x.a3 60]⟩
theorem mkS_len (s : Stry) (i : Nat) : (mkS s i).l.length = i ∧ (mkS s i).arr.length = i ∧ (mkS s i).ans.length = i := by
  induction i with
  | zero => exact ⟨rfl, rfl, rfl⟩
  | succ i ih => simp [mkS, ih]
theorem mkS_t (s : Stry) (i : Nat) : 60 ≤ (mkS s i).t ∧ (mkS s i).t ≤ 60 + 249 * i := by
  induction i with
  | zero => simp [mkS]
  | succ i ih =>
    have := pickI_range (c := (nth s.reqs (i : Int)).a1) (n := 250) (by omega)
    simp only [mkS]
    omega
theorem shown_range {s : Stry} {k t : Int} (h0 : 0 ≤ t) : 0 ≤ s.shown k t ∧ s.shown k t ≤ 1000 + 2 * t := by
  unfold Stry.shown
  (repeat' split) <;> exact shown_bound h0
theorem shownS_mono {s : Stry} {k t t' : Int} (h0 : 0 ≤ t) (h : t ≤ t') : s.shown k t ≤ s.shown k t' := by
  unfold Stry.shown
  (repeat' split) <;> exact shown_mono h0 h
def Stry.n (s : Stry) : Nat := min s.reqs.length 14

theorem made_spec {s : Stry} {w0 : World} (hs : s.ok w0) : CallsR Try.prog 11 #[.agg s.enc.toArray] w0 fun v w' =>
    ∃ v1 v2 v3, v = .tuple #[v1, v2, v3] ∧ St w0 w' [rowOb fGRequest 50 v1 (mkS s s.n).l, rowOb (fInt .i64) 3 v2 (mkS s s.n).arr, rowOb (fInt .i64) 3 v3 (mkS s s.n).ans] := by
  have S := St.start w0
  obtain ⟨A, c, hvr⟩ := hs.rq.len
  refine CallsR.mk ?_
  refine calls_enter Try.func11 rfl Try.ntmps11 rfl ?_
  repeat' (first | refine WP_seq ?_ | refine WP_region ?_ | refine wl_nil ?_ | refine then_normal ?_ | refine WP_block ?_ | (refine g_assign ?_; refine st_assign rfl ?_) | (refine g_box ?_; refine st_valE rfl (r_box S rfl) ?_; rintro _ w ⟨b, rfl, -, S'⟩; replace S := S'; clear S'))
  obtain ⟨bs, rfl⟩ : ∃ x, x = b := ⟨_, rfl⟩
  replace S := ((S.nilRow fGRequest 50).nilRow (fInt .i64) 3).nilRow (fInt .i64) 3
  refine WP_loop (fun k σ w1 => ∃ (i : Int) (vo va vb : Value), Has σ [(1, .pointer (some ⟨bs, 0, none⟩)), (5, vo), (6, va), (7, vb), (8, .int .i64 (mkS s i.toNat).t), (9, .int .i64 i)] ∧ St w0 w1 [.var bs 28 s.enc, rowOb fGRequest 50 vo (mkS s i.toNat).l, rowOb (fInt .i64) 3 va (mkS s i.toNat).arr, rowOb (fInt .i64) 3 vb (mkS s i.toNat).ans] ∧ 0 ≤ i ∧ i ≤ s.n ∧ k = 14 - i.toNat) 14 ⟨0, _, _, _, ⟨rfl, rfl, rfl, rfl, rfl, rfl, trivial⟩, S, by omega, by omega, by omega⟩ ?_
  rintro k σ w1 ⟨i, vo, va, vb, hs', S, hi0, hi1, rfl⟩
  refine WP_has hs' ?_
  have hn : (s.n : Int) ≤ 14 ∧ (s.n : Int) ≤ s.reqs.length ∧ ((s.n : Int) = 14 ∨ (s.n : Int) = s.reqs.length) := by unfold Stry.n; omega
  have hT := mkS_t s i.toNat
  obtain ⟨L1, L2, L3⟩ := mkS_len s i.toNat
  by_cases hc : i < s.n
  · have hx := hs.rqok _ (List.mem_of_getElem? (nth_get hi0 (by omega)))
    unfold okQ inI at hx
    obtain ⟨x0, x1, x2, x3, x4⟩ := hx
    obtain ⟨p1, hp1⟩ : ∃ x, pickI (nth s.reqs i).a1 250 = x := ⟨_, rfl⟩
    have r1 := pickI_range (c := (nth s.reqs i).a1) (n := 250) (by omega)
    rw [hp1] at r1
    obtain ⟨p0, hp0⟩ : ∃ x, pickI (nth s.reqs i).a0 3 = x := ⟨_, rfl⟩
    have r0 := pickI_range (c := (nth s.reqs i).a0) (n := 3) (by omega)
    rw [hp0] at r0
    obtain ⟨p2, hp2⟩ : ∃ x, pickI (nth s.reqs i).a2 60 = x := ⟨_, rfl⟩
    have r2 := pickI_range (c := (nth s.reqs i).a2) (n := 60) (by omega)
    rw [hp2] at r2
    obtain ⟨p4, hp4⟩ : ∃ x, pickI (nth s.reqs i).a4 400 = x := ⟨_, rfl⟩
    have r4 := pickI_range (c := (nth s.reqs i).a4) (n := 400) (by omega)
    rw [hp4] at r4
    obtain ⟨p3, hp3⟩ : ∃ x, pickI (nth s.reqs i).a3 60 = x := ⟨_, rfl⟩
    have r3 := pickI_range (c := (nth s.reqs i).a3) (n := 60) (by omega)
    rw [hp3] at r3
    have hnext : mkS s (i + 1).toNat = ⟨(mkS s i.toNat).t + p1, (mkS s i.toNat).l ++ [⟨p0, s.shown p0 ((mkS s i.toNat).t + p1 - p2), 1 + p4, s.shown 3 ((mkS s i.toNat).t + p1)⟩], (mkS s i.toNat).arr ++ [(mkS s i.toNat).t + p1], (mkS s i.toNat).ans ++ [(mkS s i.toNat).t + p1 + p3]⟩ := by
      rw [show (i + 1).toNat = i.toNat + 1 by omega]
      simp only [mkS, mkReq, Int.toNat_of_nonneg hi0, hp1, hp0, hp2, hp4, hp3]
    obtain ⟨T, hTe⟩ : ∃ x, x = (mkS s i.toNat).t := ⟨_, rfl⟩
    rw [← hTe] at hT hnext
    have hq := hs.rq
    repeat' (first | refine WP_seq ?_ | refine WP_region ?_ | refine wl_nil ?_ | refine then_normal ?_ | refine WP_skip ?_ | refine WP_block ?_ | refine WP_drawTail 18 (by kernel_rfl) (by kernel_rfl) ?_ | (refine ql_nil ?_; intro w hb; replace S := S.grow hb; clear hb) | (refine g_move ?_; refine st_move rfl ?_) | (refine g_assign ?_; refine st_assign rfl ?_) | (refine g_pick ?_; refine st_pickT rfl rfl ?_) | (refine g_b_add ?_; (refine st_val rfl (r_addN rfl rfl ?_ ?_) ?_; (first | omega | (simp <;> omega)); (first | omega | (simp <;> omega)))) | (refine g_b_lss ?_; refine st_val rfl (r_lss rfl rfl) ?_) | (refine g_c_len ?_; refine st_val rfl (r_lenSlice hvr) ?_) | (refine g_fieldAddr ?_; refine st_val rfl (r_fieldAddrL rfl) ?_) | (refine g_indexAddr ?_; first | (refine st_val rfl (r_indexAddr (hq.mono S.below) rfl rfl ?_ ?_) ?_; (first | omega | (simp <;> omega)); (first | omega | (simp <;> omega))) | (refine st_val rfl (r_indexAddrArrL rfl rfl ?_ ?_) ?_; (first | omega | (simp <;> omega)); (first | omega | (simp <;> omega)))) | (refine g_load ?_; first | (refine st_val rfl (r_loadElem (hq.mono S.below) rfl ?_ ?_) ?_; (first | omega | (simp <;> omega)); (first | omega | (simp <;> omega))) | refine st_val rfl (r_loadVar (i := 0) S rfl rfl rfl) ?_ | refine st_val rfl (r_loadVar (i := 4) S rfl rfl rfl) ?_) | (refine g_callV ?_; first | (refine st_callV rfl (r_call2 rfl rfl rfl) (pickR_is hp1 (by omega) (by omega) (by omega)) ?_; intro w hb; replace S := S.grow hb; clear hb) | (refine st_callV rfl (r_call2 rfl rfl rfl) (pickR_is hp0 (by omega) (by omega) (by omega)) ?_; intro w hb; replace S := S.grow hb; clear hb)) | (refine gq_move ?_; refine q_move rfl ?_) | (refine gq_b_add ?_; (refine q_val rfl (fun w' hb => r_addN rfl rfl ?_ ?_) ?_; (first | omega | (simp <;> omega)); (first | omega | (simp <;> omega)))) | (refine gq_b_sub ?_; (refine q_val rfl (fun w' hb => r_subN rfl rfl ?_ ?_) ?_; (first | omega | (simp <;> omega)); (first | omega | (simp <;> omega)))) | (refine gq_build ?_; refine q_val rfl (fun w' hb => bd50_0_1_2_3 rfl rfl rfl rfl) ?_) | (refine gq_indexAddr ?_; (refine q_val rfl (fun w' hb => r_indexAddrArrL rfl rfl ?_ ?_) ?_; (first | omega | (simp <;> omega)); (first | omega | (simp <;> omega)))) | (refine gq_load ?_; first | refine q_val rfl (fun w' hb => r_loadVarA (i := 0) (S.grow hb) rfl rfl rfl rfl) ?_ | refine q_val rfl (fun w' hb => r_loadVar (i := 4) (S.grow hb) rfl rfl rfl) ?_) | (refine gq_callV ?_; first | refine q_callV rfl (fun w' hb => r_call2 rfl rfl rfl) (fun w' hb => pickR_is hp2 (by omega) (by omega) (by omega)) ?_ | refine q_callV rfl (fun w' hb => r_call2 rfl rfl rfl) (fun w' hb => pickR_is hp4 (by omega) (by omega) (by omega)) ?_ | refine q_callV rfl (fun w' hb => r_call3 rfl rfl rfl rfl) (fun w' hb => shownS_spec (hs.mono (S.grow hb).below) (by omega) (by omega) (by omega) (by omega)) ?_) | (refine g_alloc ?_; refine st_valE rfl (r_alloc S) ?_; rintro _ w ⟨b, rfl, -, S'⟩; replace S := S'; clear S') | (refine g_store ?_; first | (refine st_skipE rfl (r_storeVar (i := 0) S rfl rfl rfl rfl (of_decide_eq_true rfl) (of_decide_eq_true rfl)) ?_; intro w S'; replace S := S'; clear S') | (refine st_skipE rfl (r_storeVar (i := 1) S rfl rfl rfl rfl (of_decide_eq_true rfl) (of_decide_eq_true rfl)) ?_; intro w S'; replace S := S'; clear S') | (refine st_skipE rfl (r_storeVar (i := 2) S rfl rfl rfl rfl (of_decide_eq_true rfl) (of_decide_eq_true rfl)) ?_; intro w S'; replace S := S'; clear S') | (refine st_skipE rfl (r_storeVar (i := 3) S rfl rfl rfl rfl (of_decide_eq_true rfl) (of_decide_eq_true rfl)) ?_; intro w S'; replace S := S'; clear S') | (refine st_skipE rfl (r_storeVar (i := 4) S rfl rfl rfl rfl (of_decide_eq_true rfl) (of_decide_eq_true rfl)) ?_; intro w S'; replace S := S'; clear S')) | (refine wl_split rfl rfl (fun h => ?_) (fun h => ?_) <;> (fail_if_success (have hh : true = true := h)) <;> (try simp only [decide_eq_true_eq, decide_eq_false_iff_not, Bool.not_eq_true', Bool.not_eq_false', Int.not_lt, Int.not_le] at h) <;> (try (exfalso; omega))) | (refine WP_cond rfl (fun h => ?_) (fun h => ?_) <;> (fail_if_success (have hh : true = true := h)) <;> (try simp only [decide_eq_true_eq, decide_eq_false_iff_not, Bool.not_eq_true', Bool.not_eq_false', Int.not_lt, Int.not_le] at h) <;> (try (exfalso; omega))))
    refine st_valE rfl (r_litF (D := fGRequest) [⟨p0, s.shown p0 ((mkS s i.toNat).t + p1 - p2), 1 + p4, s.shown 3 ((mkS s i.toNat).t + p1)⟩] (vA fGRequest) S rfl rfl (fun _ => rfl) rfl (by decide) (by decide)) ?_
    rintro _ w ⟨bl, rfl, -, hcl, S'⟩; replace S := S'; clear S'
    refine st_valE rfl (r_append1 (D := fGRequest) (i := 1) (b := bl) (x := ⟨p0, s.shown p0 ((mkS s i.toNat).t + p1 - p2), 1 + p4, s.shown 3 ((mkS s i.toNat).t + p1)⟩) S rfl rfl rfl (fl_one hcl) rfl (by decide) (of_decide_eq_true rfl) (by omega) (by omega)) ?_
    rintro vo' w ⟨-, S'⟩; replace S := S'; clear S' hcl
    repeat' (first | refine WP_seq ?_ | refine WP_region ?_ | refine wl_nil ?_ | refine then_normal ?_ | (refine g_move ?_; refine st_move rfl ?_) | (refine g_assign ?_; refine st_assign rfl ?_))
    refine st_valE rfl (r_litF (D := fInt .i64) [(mkS s i.toNat).t + p1] (Value.int .i64) S rfl rfl (fun _ => rfl) rfl (by decide) (by decide)) ?_
    rintro _ w ⟨bl2, rfl, -, hcl, S'⟩; replace S := S'; clear S'
    refine st_valE rfl (r_append1 (D := fInt .i64) (i := 2) (b := bl2) (x := (mkS s i.toNat).t + p1) S rfl rfl rfl (fl_one hcl) rfl (by decide) (of_decide_eq_true rfl) (by omega) (by omega)) ?_
    rintro va' w ⟨-, S'⟩; replace S := S'; clear S' hcl
    repeat' (first | refine WP_region ?_ | refine wl_nil ?_ | refine then_normal ?_ | (refine g_move ?_; refine st_move rfl ?_) | (refine g_assign ?_; refine st_assign rfl ?_) | (refine g_b_add ?_; (refine st_val rfl (r_addN rfl rfl ?_ ?_) ?_; (first | omega | (simp <;> omega)); (first | omega | (simp <;> omega)))) | (refine g_indexAddr ?_; (refine st_val rfl (r_indexAddrArrL rfl rfl ?_ ?_) ?_; (first | omega | (simp <;> omega)); (first | omega | (simp <;> omega)))) | (refine g_load ?_; refine st_val rfl (r_loadVar (i := 4) S rfl rfl rfl) ?_) | (refine g_callV ?_; (refine st_callV rfl (r_call2 rfl rfl rfl) (pickR_is hp3 (by omega) (by omega) (by omega)) ?_; intro w hb; replace S := S.grow hb; clear hb)))
    refine st_valE rfl (r_litF (D := fInt .i64) [(mkS s i.toNat).t + p1 + p3] (Value.int .i64) S rfl rfl (fun _ => rfl) rfl (by decide) (by decide)) ?_
    rintro _ w ⟨bl3, rfl, -, hcl, S'⟩; replace S := S'; clear S'
    refine st_valE rfl (r_append1 (D := fInt .i64) (i := 3) (b := bl3) (x := (mkS s i.toNat).t + p1 + p3) S rfl rfl rfl (fl_one hcl) rfl (by decide) (of_decide_eq_true rfl) (by omega) (by omega)) ?_
    rintro vb' w ⟨-, S'⟩; replace S := S'; clear S' hcl
    repeat' (first | refine WP_region ?_ | refine wl_nil ?_ | refine then_normal ?_ | refine inB_normal ?_ | (refine g_move ?_; refine st_move rfl ?_) | (refine g_assign ?_; refine st_assign rfl ?_) | (refine g_b_add ?_; (refine st_val rfl (r_addN rfl rfl ?_ ?_) ?_; (first | omega | (simp <;> omega)); (first | omega | (simp <;> omega)))))
    refine ⟨⟨_, ?_, i + 1, vo', va', vb', ⟨rfl, rfl, rfl, rfl, ?_, rfl, trivial⟩, ?_, by omega, by omega, rfl⟩⟩
    · omega
    · rw [hnext, hTe]; rfl
    · rw [hnext, hTe]
      exact S.sub (List.sublist_append_left [_, _, _, _] [_, _, _, _])
  · repeat' (first | refine WP_seq ?_ | refine WP_region ?_ | refine wl_nil ?_ | refine then_normal ?_ | refine then_exit ?_ | refine inB_here ?_ | refine WP_ret ?_ | refine WP_exit ?_ | refine WP_condF rfl ?_ | (refine g_guard ?_; refine st_off rfl ?_) | (refine g_move ?_; refine st_move rfl ?_) | (refine g_assign ?_; refine st_assign rfl ?_) | (refine g_pick ?_; first | refine st_pickT rfl rfl ?_ | refine st_pickF rfl rfl ?_) | (refine g_b_lss ?_; refine st_val rfl (r_lss rfl rfl) ?_) | (refine g_c_len ?_; refine st_val rfl (r_lenSlice hvr) ?_) | (refine g_fieldAddr ?_; refine st_val rfl (r_fieldAddrL rfl) ?_) | (refine g_load ?_; refine st_val rfl (r_loadVar (i := 0) S rfl rfl rfl) ?_) | (refine wl_split rfl rfl (fun h => ?_) (fun h => ?_) <;> (fail_if_success (have hh : true = true := h)) <;> (try simp only [decide_eq_true_eq, decide_eq_false_iff_not, Bool.not_eq_true', Bool.not_eq_false', Int.not_lt, Int.not_le] at h) <;> (try (exfalso; omega))) | (refine WP_cond rfl (fun h => ?_) (fun h => ?_) <;> (fail_if_success (have hh : true = true := h)) <;> (try simp only [decide_eq_true_eq, decide_eq_false_iff_not, Bool.not_eq_true', Bool.not_eq_false', Int.not_lt, Int.not_le] at h) <;> (try (exfalso; omega))))
    have e : i = s.n := by omega
    all_goals (refine end3 (v := vo) (v2 := va) (v3 := vb) rfl rfl rfl rfl ⟨_, rfl, S.below, vo, va, vb, rfl, ?_⟩)
    all_goals (have e2 : i.toNat = s.n := by omega)
    all_goals rw [← e2]
    all_goals exact S.sub (List.sublist_cons_self _ _)
end Go.Proofs.Ytaoicaldhllbfaa
