import Derived.Test.YteplelijhkmbkaaDoorLG
import Derived.Test.YteplelijhkmbkaaDoorGxJ5
import Derived.Test.YteplelijhkmbkaaDoorG2
namespace Go.Proofs.YteplelijhkmbkaaDoor
open Go Go.Gx Go.RowKit
set_option linter.unusedVariables false
set_option linter.unusedSimpArgs false

theorem spotsL_at {l : List GContract} (hl : validC l = true) (ys : List GArr2Int) : ∀ s ∈ spotsL l ys, s.At < 300000 := by
  intro x hx
  unfold spotsL spotsN at hx
  obtain ⟨i, _, rfl⟩ := List.mem_map.1 hx
  exact (spotF_ok hl _).2
theorem may_asc {l : List GContract} (hv : validC l = true) (p : GContract → Bool) : ((l.filter p).map fun c => c.ID).Pairwise (· < ·) := by
  rw [List.pairwise_map]
  exact (valid_pw hv).sublist List.filter_sublist
theorem may_mem {l : List GContract} {sp : List GSpot} {z : GSpot} : z.Contract ∈ ((l.filter (mayP l sp z.At)).map fun c => c.ID) ↔ rsn l (cntS l sp) z = 0 := by
  rw [List.mem_map]
  constructor
  · rintro ⟨c, hc, e⟩
    have h := of_decide_eq_true (List.mem_filter.1 hc).2
    rw [e] at h; exact h
  · intro h
    cases hc : cFind l z.Contract with
    | none => exact absurd hc (rsn_found h)
    | some c =>
      have e := cFind_id hc
      refine ⟨c, List.mem_filter.2 ⟨cFind_mem hc, decide_eq_true ?_⟩, e⟩
      rw [e]; exact h
theorem asc_at {m : List Int} (h : m.Pairwise (· < ·)) {i : Int} (h0 : 0 < i) (hi : i < m.length) : nth m (i - 1) < nth m i := by
  have e1 := nth_get (l := m) (i := i - 1) (by omega) (by omega)
  have e2 := nth_get (l := m) (i := i) (by omega) hi
  rw [List.getElem?_eq_getElem (by omega)] at e1 e2
  have := List.pairwise_iff_getElem.1 h (i - 1).toNat i.toNat (by omega) (by omega) (by omega)
  rw [Option.some.inj e1, Option.some.inj e2] at this
  exact this
theorem may_t {l : List GContract} {sp : List GSpot} {t : Int} (h : okI l sp = true) (ht : 0 ≤ t ∧ t ≤ 9999999) : mayI l sp t = ((l.filter (mayP l sp t)).map fun c => c.ID, 0) := by
  unfold mayI
  rw [h, show inR t 0 9999999 = true from decide_eq_true ht]; rfl
theorem reason_t {l : List GContract} {sp : List GSpot} {z : GSpot} (h : okI l sp = true) (hz : okP z = true) : reasonI l sp z = (rsn l (cntS l sp) z, 0) := by
  unfold reasonI; rw [h, hz]; rfl
set_option maxHeartbeats 4000000 in
theorem lawNext_spec {vx vy : Value} {xs : List GArr8Int} {ys : List GArr2Int} {which later : Int} {w0 : World} (hG : TblAt w0) (hr1 : Rd fGArr8Int.ty w0 vx xs) (hx : ∀ x ∈ xs, okA8 x) (hxl : xs.length ≤ maxLen) (hr2 : Rd fGArr2Int.ty w0 vy ys) (hy : ∀ y ∈ ys, okA2 y) (hyl : ys.length ≤ maxLen) (ht1 : inI which) (ht2 : inI later) :
    CallsV Tryd.prog 7 #[vx, vy, .int .i64 which, .int .i64 later] w0 (.bool true) := by
  have S := St.start w0
  refine CallsV.mk ?_
  refine calls_enter Tryd.func7 rfl (by intro _ h; first | exact nomatch h.1 | (obtain ⟨_, h, _⟩ := h; exact nomatch h)) Tryd.ntmps7 rfl ?_
  repeat' (first | refine WP_seq ?_ | refine WP_region ?_ | refine wl_nil ?_ | refine then_normal ?_ | refine WP_skip ?_ | refine WP_condF rfl ?_ | (refine g_move ?_; refine st_move rfl ?_) | (refine g_assign ?_; refine st_assign rfl ?_) | (refine g_un ?_; refine st_val rfl (r_not rfl) ?_) | (refine g_callV ?_; (refine st_callV rfl (r_call0 rfl) (sane_spec (hG.mono S.below)) ?_; intro w hb; replace S := S.grow hb; clear hb)))
  refine st_callR rfl (r_call1 rfl rfl) (made_run (hr1.mono S.below) hx hxl) ?_; rintro vL w hb hrow; replace S := S.new hb hrow; clear hb hrow
  obtain ⟨l, hl⟩ : ∃ l, madeL xs = l := ⟨_, rfl⟩
  have hvl : validC l = true := by rw [← hl]; exact madeL_ok xs
  have hll : l.length ≤ 8 := by rw [← hl]; exact madeL_len xs
  rw [hl] at S
  obtain ⟨AL, cL, hz⟩ := (S.rdRow (D := fGContract) (i := 0) rfl).len; subst hz
  repeat' (first | refine WP_seq ?_ | refine WP_region ?_ | refine wl_nil ?_ | refine then_normal ?_ | (refine g_move ?_; refine st_move rfl ?_) | (refine g_assign ?_; refine st_assign rfl ?_))
  refine st_callR rfl (r_call2 rfl rfl rfl) (spots_run (S.rdRow (D := fGContract) (i := 0) rfl) (hr2.mono S.below) hy (by omega) hyl) ?_; rintro vP w hb hrow; replace S := S.new hb hrow; clear hb hrow
  obtain ⟨sp, hsp⟩ : ∃ sp, spotsL l ys = sp := ⟨_, rfl⟩
  have hvp : validP sp = true := by rw [← hsp]; exact spotsL_ok hvl ys
  have hpl : sp.length ≤ 24 := by rw [← hsp]; exact spotsL_len l ys
  rw [hsp] at S
  obtain ⟨AP, cP, hz⟩ := (S.rdRow (D := fGSpot) (i := 1) rfl).len; subst hz
  have hok : okI l sp = true := by unfold okI; rw [hvl, hvp]; rfl
  replace S : St w0 w [rowOb fGContract 29 (.slice AL l.length cL) l, rowOb fGSpot 31 (.slice AP sp.length cP) sp] := S

  have hat : ∀ s ∈ sp, 0 ≤ s.At ∧ s.At < 300000 := fun s hs => ⟨(okP_sp hok s hs).1, by rw [← hsp] at hs; exact spotsL_at hvl ys s hs⟩
  have r1 := pickI_range (c := which) (n := 100) (by omega)
  have r2 := pickI_range (c := later) (n := 40000) (by omega)
  have r3 := pickI_range (c := later) (n := 3000) (by omega)
  have r9 := pickI_range (c := which) (n := 9) (by omega)
  repeat' (first | refine WP_seq ?_ | refine WP_region ?_ | refine wl_nil ?_ | refine then_normal ?_ | (refine g_move ?_; refine st_move rfl ?_) | (refine g_assign ?_; refine st_assign rfl ?_) | (refine g_build ?_; refine st_val rfl (bd31_0_1 rfl rfl) ?_) | (refine g_callV ?_; first | (refine st_callV rfl (r_call2 rfl rfl rfl) (pick_spec ht1.1 ht1.2 (by omega)) ?_; intro w hb; replace S := S.grow hb; clear hb) | (refine st_callV rfl (r_call2 rfl rfl rfl) (pick_spec ht2.1 ht2.2 (by omega)) ?_; intro w hb; replace S := S.grow hb; clear hb)) | (refine g_alloc ?_; refine st_valE rfl (r_alloc S) ?_; rintro _ w ⟨b, rfl, -, S'⟩; replace S := S'; clear S'))
  obtain ⟨bz, rfl⟩ : ∃ x, x = b := ⟨_, rfl⟩
  refine st_skipE rfl (r_storeVar (i := 2) S rfl rfl rfl rfl (of_decide_eq_true rfl) (of_decide_eq_true rfl)) ?_; intro w S'; replace S := S'; clear S'
  refine wl_nil ?_
  refine then_normal ?_
  refine WP_seq_cut (fun σ w1 => ∃ z : GSpot, Has σ [(3, .int .i64 later), (9, .bool true), (10, .slice AL l.length cL), (11, .slice AP sp.length cP), (12, .pointer (some ⟨bz, 0, none⟩))] ∧ St w0 w1 [rowOb fGContract 29 (.slice AL l.length cL) l, rowOb fGSpot 31 (.slice AP sp.length cP) sp, .var bz 31 z.enc] ∧ 0 ≤ z.Contract ∧ z.Contract ≤ 99 ∧ 0 ≤ z.At ∧ z.At ≤ 40000) ?_ ?_
  · by_cases hc : 0 < (l.length : Int) ∧ 0 < pickI which 9
    · have rl := pickI_range (c := which) (n := (l.length : Int)) hc.1
      have hid := okC_id (valid_ok hvl (nth_mem rl.1 rl.2))
      repeat' (first | refine WP_seq ?_ | refine WP_region ?_ | refine wl_nil ?_ | refine then_normal ?_ | (refine g_move ?_; refine st_move rfl ?_) | (refine g_pick ?_; refine st_pickT rfl rfl ?_) | (refine g_b_gtr ?_; refine st_val rfl (r_gtr rfl rfl) ?_) | (refine g_c_len ?_; refine st_val rfl (r_lenSlice rfl) ?_) | (refine g_fieldAddr ?_; first | refine st_val rfl (r_fieldAddrL rfl) ?_ | refine st_val rfl (r_fieldAddr rfl) ?_) | (refine g_indexAddr ?_; (refine st_val rfl (r_indexAddr (S.rdRow (D := fGContract) (i := 0) rfl) rfl rfl ?_ ?_) ?_; (first | omega | (simp <;> omega)); (first | omega | (simp <;> omega)))) | (refine g_load ?_; (refine st_val rfl (r_loadElem1 (S.rdRow (D := fGContract) (i := 0) rfl) rfl ?_ ?_ rfl) ?_; (first | omega | (simp <;> omega)); (first | omega | (simp <;> omega)))) | (refine g_callV ?_; (refine st_callV rfl (r_call2 rfl rfl rfl) (pick_spec ht1.1 ht1.2 (by omega)) ?_; intro w hb; replace S := S.grow hb; clear hb)) | (refine g_store ?_; first | (refine st_skipE rfl (r_storeVar (i := 0) S rfl rfl rfl rfl (of_decide_eq_true rfl) (of_decide_eq_true rfl)) ?_; intro w S'; replace S := S'; clear S') | (refine st_skipE rfl (r_storeVar (i := 1) S rfl rfl rfl rfl (of_decide_eq_true rfl) (of_decide_eq_true rfl)) ?_; intro w S'; replace S := S'; clear S') | (refine st_skipE rfl (r_storeVar (i := 2) S rfl rfl rfl rfl (of_decide_eq_true rfl) (of_decide_eq_true rfl)) ?_; intro w S'; replace S := S'; clear S')) | (refine wl_split rfl rfl (fun h => ?_) (fun h => ?_) <;> (fail_if_success (have hh : true = true := h)) <;> (fail_if_success (have hh : false = false := h)) <;> (try simp only [decide_eq_true_eq, decide_eq_false_iff_not, Bool.not_eq_true', Bool.not_eq_false', Int.not_lt, Int.not_le] at h) <;> (try (exfalso; omega))) | (refine WP_cond rfl (fun h => ?_) (fun h => ?_) <;> (fail_if_success (have hh : true = true := h)) <;> (fail_if_success (have hh : false = false := h)) <;> (try simp only [decide_eq_true_eq, decide_eq_false_iff_not, Bool.not_eq_true', Bool.not_eq_false', Int.not_lt, Int.not_le] at h) <;> (try (exfalso; omega))))
      exact ⟨⟨(nth l (pickI which l.length)).ID, pickI later 40000⟩, ⟨rfl, rfl, rfl, rfl, rfl, trivial⟩, S, hid.1, hid.2, r2.1, by show pickI later 40000 ≤ 40000; omega⟩
    · repeat' (first | refine WP_seq ?_ | refine WP_region ?_ | refine wl_nil ?_ | refine then_normal ?_ | refine WP_skip ?_ | refine WP_condF rfl ?_ | (refine g_guard ?_; refine st_off rfl ?_) | (refine g_move ?_; refine st_move rfl ?_) | (refine g_pick ?_; first | refine st_pickT rfl rfl ?_ | refine st_pickF rfl rfl ?_) | (refine g_b_gtr ?_; refine st_val rfl (r_gtr rfl rfl) ?_) | (refine g_c_len ?_; refine st_val rfl (r_lenSlice rfl) ?_) | (refine g_callV ?_; (refine st_callV rfl (r_call2 rfl rfl rfl) (pick_spec ht1.1 ht1.2 (by omega)) ?_; intro w hb; replace S := S.grow hb; clear hb)) | (refine wl_split rfl rfl (fun h => ?_) (fun h => ?_) <;> (fail_if_success (have hh : true = true := h)) <;> (fail_if_success (have hh : false = false := h)) <;> (try simp only [decide_eq_true_eq, decide_eq_false_iff_not, Bool.not_eq_true', Bool.not_eq_false', Int.not_lt, Int.not_le] at h) <;> (try (exfalso; omega))) | (refine WP_cond rfl (fun h => ?_) (fun h => ?_) <;> (fail_if_success (have hh : true = true := h)) <;> (fail_if_success (have hh : false = false := h)) <;> (try simp only [decide_eq_true_eq, decide_eq_false_iff_not, Bool.not_eq_true', Bool.not_eq_false', Int.not_lt, Int.not_le] at h) <;> (try (exfalso; omega))))
      all_goals exact ⟨⟨pickI which 100, pickI later 40000⟩, ⟨rfl, rfl, rfl, rfl, rfl, trivial⟩, S, r1.1, by show pickI which 100 ≤ 99; omega, r2.1, by show pickI later 40000 ≤ 40000; omega⟩
  clear S
  rintro σ w1 ⟨z, hs, S, hz0, hz1, hz2, hz3⟩
  refine WP_has hs ?_
  repeat' (first | refine WP_seq ?_ | refine WP_region ?_ | refine wl_nil ?_ | refine then_normal ?_ | refine WP_block ?_ | (refine g_assign ?_; refine st_assign rfl ?_))
  refine WP_loop (fun m σ w1 => ∃ (i : Int) (z : GSpot), Has σ [(3, .int .i64 later), (9, .bool true), (10, .slice AL l.length cL), (11, .slice AP sp.length cP), (12, .pointer (some ⟨bz, 0, none⟩)), (13, .int .i64 i)] ∧ St w0 w1 [rowOb fGContract 29 (.slice AL l.length cL) l, rowOb fGSpot 31 (.slice AP sp.length cP) sp, .var bz 31 z.enc] ∧ 0 ≤ i ∧ i ≤ sp.length ∧ 0 ≤ z.Contract ∧ z.Contract ≤ 99 ∧ 0 ≤ z.At ∧ z.At ≤ 400000 ∧ (∀ j : Int, 0 ≤ j → j < i → leS (nth sp j) z) ∧ m = sp.length - i.toNat) sp.length ⟨0, z, ⟨rfl, rfl, rfl, rfl, rfl, rfl, trivial⟩, S, by omega, by omega, hz0, hz1, hz2, by omega, fun j a b => by omega, by omega⟩ ?_
  clear S hs hz0 hz1 hz2 hz3
  rintro m σ w1 ⟨i, z, hs, S, hi0, hi1, hz0, hz1, hz2, hz3, hall, hm⟩
  refine WP_has hs ?_
  by_cases hi : i < sp.length
  · have hsr := hat _ (nth_mem hi0 hi)
    by_cases hgt : z.At < (nth sp i).At ∨ ((nth sp i).At = z.At ∧ z.Contract < (nth sp i).Contract)
    · repeat' (first | refine WP_seq ?_ | refine WP_region ?_ | refine wl_nil ?_ | refine then_normal ?_ | refine inB_normal ?_ | refine WP_skip ?_ | refine WP_block ?_ | refine WP_condT rfl ?_ | refine WP_drawTail 10 (by kernel_rfl) (by decide +kernel) ?_ | refine WP_draw (by kernel_rfl) (by kernel_rfl) ?_ | (refine ql_nil ?_; intro w hb; replace S := S.grow hb; clear hb) | (refine g_move ?_; refine st_move rfl ?_) | (refine g_assign ?_; refine st_assign rfl ?_) | (refine g_b_add ?_; (refine st_val rfl (r_addN rfl rfl ?_ ?_) ?_; (first | omega | (simp <;> omega)); (first | omega | (simp <;> omega)))) | (refine g_b_lss ?_; refine st_val rfl (r_lss rfl rfl) ?_) | (refine g_c_len ?_; refine st_val rfl (r_lenSlice rfl) ?_) | (refine gq_guard ?_; refine q_off rfl ?_) | (refine gq_move ?_; refine q_move rfl ?_) | (refine gq_pick ?_; first | refine q_pickT rfl rfl ?_ | refine q_pickF rfl rfl ?_) | (refine gq_b_add ?_; (refine q_val rfl (fun w' hb => r_addN rfl rfl ?_ ?_) ?_; (first | omega | (simp <;> omega)); (first | omega | (simp <;> omega)))) | (refine gq_b_eql ?_; refine q_val rfl (fun w' hb => r_eql rfl rfl) ?_) | (refine gq_b_gtr ?_; refine q_val rfl (fun w' hb => r_gtr rfl rfl) ?_) | (refine gq_fieldAddr ?_; first | refine q_val rfl (fun w' hb => r_fieldAddrL rfl) ?_ | refine q_val rfl (fun w' hb => r_fieldAddr rfl) ?_) | (refine gq_indexAddr ?_; (refine q_val rfl (fun w' hb => r_indexAddr ((S.grow hb).rdRow (D := fGSpot) (i := 1) rfl) rfl rfl ?_ ?_) ?_; (first | omega | (simp <;> omega)); (first | omega | (simp <;> omega)))) | (refine gq_load ?_; first | (refine q_val rfl (fun w' hb => r_loadElem1 ((S.grow hb).rdRow (D := fGSpot) (i := 1) rfl) rfl ?_ ?_ rfl) ?_; (first | omega | (simp <;> omega)); (first | omega | (simp <;> omega))) | (refine q_val rfl (fun w' hb => r_loadElemF ((S.grow hb).rdRow (D := fGSpot) (i := 1) rfl) rfl ?_ ?_ rfl) ?_; (first | omega | (simp <;> omega)); (first | omega | (simp <;> omega))) | refine q_val rfl (fun w' hb => r_loadVar (i := 2) (S.grow hb) rfl rfl rfl) ?_) | (refine gq_callV ?_; refine q_callV rfl (fun w' hb => r_call2 rfl rfl rfl) (fun w' hb => pick_spec ht2.1 ht2.2 (by omega)) ?_) | (refine g_store ?_; first | (refine st_skipE rfl (r_storeVar (i := 0) S rfl rfl rfl rfl (of_decide_eq_true rfl) (of_decide_eq_true rfl)) ?_; intro w S'; replace S := S'; clear S') | (refine st_skipE rfl (r_storeVar (i := 1) S rfl rfl rfl rfl (of_decide_eq_true rfl) (of_decide_eq_true rfl)) ?_; intro w S'; replace S := S'; clear S') | (refine st_skipE rfl (r_storeVar (i := 2) S rfl rfl rfl rfl (of_decide_eq_true rfl) (of_decide_eq_true rfl)) ?_; intro w S'; replace S := S'; clear S')) | (refine ql_split rfl rfl (fun h => ?_) (fun h => ?_) <;> (fail_if_success (have hh : true = true := h)) <;> (fail_if_success (have hh : false = false := h)) <;> (try simp only [decide_eq_true_eq, decide_eq_false_iff_not, Bool.not_eq_true', Bool.not_eq_false', Int.not_lt, Int.not_le] at h) <;> (try (exfalso; omega))) | (refine WP_cond rfl (fun h => ?_) (fun h => ?_) <;> (fail_if_success (have hh : true = true := h)) <;> (fail_if_success (have hh : false = false := h)) <;> (try simp only [decide_eq_true_eq, decide_eq_false_iff_not, Bool.not_eq_true', Bool.not_eq_false', Int.not_lt, Int.not_le] at h) <;> (try (exfalso; omega))))
      all_goals
        refine ⟨⟨_, ?_, i + 1, ⟨z.Contract, (nth sp i).At + 1 + pickI later 3000⟩, ⟨rfl, rfl, rfl, rfl, rfl, rfl, trivial⟩, S, by omega, by omega, hz0, hz1, by show 0 ≤ (nth sp i).At + 1 + pickI later 3000; omega, by show (nth sp i).At + 1 + pickI later 3000 ≤ 400000; omega, fun j a b => ?_, rfl⟩⟩
        · omega
        · left
          show (nth sp j).At < (nth sp i).At + 1 + pickI later 3000
          by_cases e : j = i
          · subst e; omega
          · have := hall j a (by omega)
            unfold leS at this; omega
    · repeat' (first | refine WP_seq ?_ | refine WP_region ?_ | refine wl_nil ?_ | refine then_normal ?_ | refine inB_normal ?_ | refine WP_skip ?_ | refine WP_block ?_ | refine WP_condF rfl ?_ | refine WP_draw (by kernel_rfl) (by kernel_rfl) ?_ | (refine ql_nil ?_; intro w hb; replace S := S.grow hb; clear hb) | (refine g_move ?_; refine st_move rfl ?_) | (refine g_assign ?_; refine st_assign rfl ?_) | (refine g_b_add ?_; (refine st_val rfl (r_addN rfl rfl ?_ ?_) ?_; (first | omega | (simp <;> omega)); (first | omega | (simp <;> omega)))) | (refine g_b_lss ?_; refine st_val rfl (r_lss rfl rfl) ?_) | (refine g_c_len ?_; refine st_val rfl (r_lenSlice rfl) ?_) | (refine gq_guard ?_; refine q_off rfl ?_) | (refine gq_move ?_; refine q_move rfl ?_) | (refine gq_pick ?_; first | refine q_pickT rfl rfl ?_ | refine q_pickF rfl rfl ?_) | (refine gq_b_eql ?_; refine q_val rfl (fun w' hb => r_eql rfl rfl) ?_) | (refine gq_b_gtr ?_; refine q_val rfl (fun w' hb => r_gtr rfl rfl) ?_) | (refine gq_fieldAddr ?_; first | refine q_val rfl (fun w' hb => r_fieldAddrL rfl) ?_ | refine q_val rfl (fun w' hb => r_fieldAddr rfl) ?_) | (refine gq_indexAddr ?_; (refine q_val rfl (fun w' hb => r_indexAddr ((S.grow hb).rdRow (D := fGSpot) (i := 1) rfl) rfl rfl ?_ ?_) ?_; (first | omega | (simp <;> omega)); (first | omega | (simp <;> omega)))) | (refine gq_load ?_; first | (refine q_val rfl (fun w' hb => r_loadElem1 ((S.grow hb).rdRow (D := fGSpot) (i := 1) rfl) rfl ?_ ?_ rfl) ?_; (first | omega | (simp <;> omega)); (first | omega | (simp <;> omega))) | (refine q_val rfl (fun w' hb => r_loadElemF ((S.grow hb).rdRow (D := fGSpot) (i := 1) rfl) rfl ?_ ?_ rfl) ?_; (first | omega | (simp <;> omega)); (first | omega | (simp <;> omega))) | refine q_val rfl (fun w' hb => r_loadVar (i := 2) (S.grow hb) rfl rfl rfl) ?_) | (refine ql_split rfl rfl (fun h => ?_) (fun h => ?_) <;> (fail_if_success (have hh : true = true := h)) <;> (fail_if_success (have hh : false = false := h)) <;> (try simp only [decide_eq_true_eq, decide_eq_false_iff_not, Bool.not_eq_true', Bool.not_eq_false', Int.not_lt, Int.not_le] at h) <;> (try (exfalso; omega))) | (refine WP_cond rfl (fun h => ?_) (fun h => ?_) <;> (fail_if_success (have hh : true = true := h)) <;> (fail_if_success (have hh : false = false := h)) <;> (try simp only [decide_eq_true_eq, decide_eq_false_iff_not, Bool.not_eq_true', Bool.not_eq_false', Int.not_lt, Int.not_le] at h) <;> (try (exfalso; omega))))
      all_goals
        refine ⟨⟨_, ?_, i + 1, z, ⟨rfl, rfl, rfl, rfl, rfl, rfl, trivial⟩, S, by omega, by omega, hz0, hz1, hz2, hz3, fun j a b => ?_, rfl⟩⟩
        · omega
        · by_cases e : j = i
          · subst e; unfold leS; omega
          · exact hall j a (by omega)
  have hzall : ∀ s ∈ sp, leS s z := fun s hs' => by
    obtain ⟨j, hj⟩ := List.getElem?_of_mem hs'
    have hlt := (List.getElem?_eq_some_iff.1 hj).1
    have h1 := nth_get (l := sp) (i := (j : Int)) (by omega) (by omega)
    rw [Int.toNat_natCast, hj] at h1
    cases h1; exact hall _ (by omega) (by omega)
  have hokz : okP z = true := by unfold okP; rw [decide_eq_true_eq]; omega
  have hlast := cntI_last (l := l) hzall
  have hcl := cntI_len l sp
  have hokd : okI l (sp ++ [z]) = true := by
    refine okI_of hvl ?_
    unfold validP
    rw [decide_eq_true (by rw [List.length_append, List.length_singleton]; omega), Bool.true_and, List.all_append, (Bool.and_eq_true_iff.1 hvp).2]
    simp [hokz]
  have hdl : (sp ++ [z]).length = sp.length + 1 := by rw [List.length_append, List.length_singleton]
  repeat' (first | refine WP_seq ?_ | refine WP_region ?_ | refine wl_nil ?_ | refine then_normal ?_ | refine then_exit ?_ | refine inB_here ?_ | refine WP_exit ?_ | (refine g_move ?_; refine st_move rfl ?_) | (refine g_b_lss ?_; refine st_val rfl (r_lss rfl rfl) ?_) | (refine g_c_len ?_; refine st_val rfl (r_lenSlice rfl) ?_) | (refine WP_cond rfl (fun h => ?_) (fun h => ?_) <;> (fail_if_success (have hh : true = true := h)) <;> (fail_if_success (have hh : false = false := h)) <;> (try simp only [decide_eq_true_eq, decide_eq_false_iff_not, Bool.not_eq_true', Bool.not_eq_false', Int.not_lt, Int.not_le] at h) <;> (try (exfalso; omega))))
  refine st_callR rfl (r_call2 rfl rfl rfl) (counted_is (counted_t hok) (S.rdRow (D := fGContract) (i := 0) rfl) (S.rdRow (D := fGSpot) (i := 1) rfl) (by omega) (by omega) (hG.mono S.below)) ?_; rintro _ w hb ⟨va, rfl, hrow⟩; replace S := S.new hb hrow; clear hb hrow
  obtain ⟨out, hout⟩ : ∃ out, cntI l sp = out := ⟨_, rfl⟩
  rw [hout] at hcl hlast
  replace S : St w0 w [rowOb fGContract 29 (.slice AL l.length cL) l, rowOb fGSpot 31 (.slice AP sp.length cP) sp, .var bz 31 z.enc, rowOb (fInt .i64) 3 va out] := by rw [← hout]; exact S
  obtain ⟨AA, cA, hz⟩ := (S.rdRow (D := fInt .i64) (i := 3) rfl).len; subst hz
  repeat' (first | refine WP_seq ?_ | refine wl_nil ?_ | refine then_normal ?_ | (refine g_move ?_; refine st_move rfl ?_) | (refine g_assign ?_; refine st_assign rfl ?_) | (refine g_extract ?_; refine st_val rfl (r_extract rfl rfl) ?_))
  refine WP_then_cut (fun σ w1 => ∃ vd, Has σ [(9, .bool true), (10, .slice AL l.length cL), (11, .slice AP sp.length cP), (12, .pointer (some ⟨bz, 0, none⟩)), (14, .slice AA out.length cA), (15, .int .i64 0), (16, vd), (17, .int .i64 0)] ∧ St w0 w1 [rowOb fGContract 29 (.slice AL l.length cL) l, rowOb fGSpot 31 (.slice AP sp.length cP) sp, .var bz 31 z.enc, rowOb (fInt .i64) 3 (.slice AA out.length cA) out, rowOb (fInt .i64) 3 vd (cntI l (sp ++ [z]))]) ?_ ?_
  · refine WP_drawT (fun w' => St w0 w' [rowOb fGContract 29 (.slice AL l.length cL) l, rowOb fGSpot 31 (.slice AP sp.length cP) sp, .var bz 31 z.enc, rowOb (fInt .i64) 3 (.slice AA out.length cA) out]) [0, 2, 4] (.two 1 (.two 3 (.one 5 (.one 6 (.one 7 .fin))) 5 (.one 3 (.one 6 (.one 7 .fin)))) 5 (.one 1 (.one 3 (.one 6 (.one 7 .fin))))) [8, 9, 10, 11, 12] (by kernel_rfl) (by decide) (by decide +kernel) (fun w' hb => S.grow hb) ?_
    intro w hb; replace S := S.grow hb; clear hb
    refine jq_val rfl (fun w' hJ => ⟨rfl⟩) ?_
    refine jq_val rfl (fun w' hJ => ⟨rfl⟩) ?_
    refine jq_val (v := .agg z.enc.toArray) rfl (fun w' hJ => r_loadVarA (i := 2) hJ rfl rfl rfl rfl) ?_
    refine jq_nil ?_
    refine wt_two ?_ ?_
    · refine kq_valE rfl (r_lit0 (D := fGSpot) S) ?_; rintro vX w ⟨-, S'⟩; refine ⟨S'.keep [true, true, true, true], ?_⟩; replace S := S'; clear S'
      refine wt_two ?_ ?_
      · refine kq_valE rfl (r_appendRd (i := 4) (l := []) (D := fGSpot) S rfl (S.rdRow (D := fGSpot) (i := 1) rfl) rfl rfl rfl (by decide) one_sp (by simp; omega) (by simp; omega)) ?_; rintro vX1 w ⟨-, S'⟩; refine ⟨S'.keep [true, true, true, true], ?_⟩; replace S := S'; clear S'
        refine wt_one ?_
        refine kq_valE rfl (r_litF (D := fGSpot) [z] (fun y => .agg y.enc.toArray) S rfl rfl (fun _ => rfl) rfl (by decide) (by decide)) ?_; rintro _ w ⟨bl, rfl, -, -, S'⟩; refine ⟨S'.keep [true, true, true, true], ?_⟩; replace S := S'; clear S'
        refine wt_one ?_
        refine kq_valE rfl (r_appendRd (i := 4) (l := [] ++ sp) (D := fGSpot) S rfl (S.rdRow (D := fGSpot) (i := 5) rfl) rfl rfl rfl (by decide) one_sp (by simp; omega) (by simp; omega)) ?_; rintro vX2 w ⟨-, S'⟩; refine ⟨S'.keep [true, true, true, true], ?_⟩; replace S := S'; clear S'
        replace S : St w0 w [rowOb fGContract 29 (.slice AL l.length cL) l, rowOb fGSpot 31 (.slice AP sp.length cP) sp, .var bz 31 z.enc, rowOb (fInt .i64) 3 (.slice AA out.length cA) out, rowOb fGSpot 31 vX2 (sp ++ [z])] := by first | exact S.keep [true, true, true, true, true, false] | exact S.keep [true, true, true, true, false, true]
        refine wt_one ?_
        refine kq_callR rfl (r_call2 rfl rfl rfl) (counted_is (counted_t hokd) (S.rdRow (D := fGContract) (i := 0) rfl) (S.rdRow (D := fGSpot) (i := 4) rfl) (by omega) (by omega) (hG.mono S.below)) ?_; rintro _ w hb ⟨vd, rfl, hrow⟩; refine ⟨(S.new hb hrow).keep [true, true, true, true], ?_⟩; replace S := S.new hb hrow; clear hb hrow
        refine wt_fin ?_
        refine jq_val rfl (fun w' hJ => ⟨rfl⟩) ?_
        refine jq_val rfl (fun w' hJ => r_extract rfl rfl) ?_
        refine jq_val rfl (fun w' hJ => r_extract rfl rfl) ?_
        refine jq_val rfl (fun w' hJ => ⟨rfl⟩) ?_
        refine jq_val rfl (fun w' hJ => ⟨rfl⟩) ?_
        refine jq_nil ?_
        refine calm_normal ?_
        refine then_normal ?_
        exact ⟨vd, ⟨rfl, rfl, rfl, rfl, rfl, rfl, rfl, rfl, trivial⟩, S.keep [true, true, true, true, false, true]⟩
      · refine kq_valE rfl (r_litF (D := fGSpot) [z] (fun y => .agg y.enc.toArray) S rfl rfl (fun _ => rfl) rfl (by decide) (by decide)) ?_; rintro _ w ⟨bl, rfl, -, -, S'⟩; refine ⟨S'.keep [true, true, true, true], ?_⟩; replace S := S'; clear S'
        refine wt_one ?_
        refine kq_valE rfl (r_appendRd (i := 4) (l := []) (D := fGSpot) S rfl (S.rdRow (D := fGSpot) (i := 1) rfl) rfl rfl rfl (by decide) one_sp (by simp; omega) (by simp; omega)) ?_; rintro vX1 w ⟨-, S'⟩; refine ⟨S'.keep [true, true, true, true], ?_⟩; replace S := S'; clear S'
        refine wt_one ?_
        refine kq_valE rfl (r_appendRd (i := 4) (l := [] ++ sp) (D := fGSpot) S rfl (S.rdRow (D := fGSpot) (i := 5) rfl) rfl rfl rfl (by decide) one_sp (by simp; omega) (by simp; omega)) ?_; rintro vX2 w ⟨-, S'⟩; refine ⟨S'.keep [true, true, true, true], ?_⟩; replace S := S'; clear S'
        replace S : St w0 w [rowOb fGContract 29 (.slice AL l.length cL) l, rowOb fGSpot 31 (.slice AP sp.length cP) sp, .var bz 31 z.enc, rowOb (fInt .i64) 3 (.slice AA out.length cA) out, rowOb fGSpot 31 vX2 (sp ++ [z])] := by first | exact S.keep [true, true, true, true, true, false] | exact S.keep [true, true, true, true, false, true]
        refine wt_one ?_
        refine kq_callR rfl (r_call2 rfl rfl rfl) (counted_is (counted_t hokd) (S.rdRow (D := fGContract) (i := 0) rfl) (S.rdRow (D := fGSpot) (i := 4) rfl) (by omega) (by omega) (hG.mono S.below)) ?_; rintro _ w hb ⟨vd, rfl, hrow⟩; refine ⟨(S.new hb hrow).keep [true, true, true, true], ?_⟩; replace S := S.new hb hrow; clear hb hrow
        refine wt_fin ?_
        refine jq_val rfl (fun w' hJ => ⟨rfl⟩) ?_
        refine jq_val rfl (fun w' hJ => r_extract rfl rfl) ?_
        refine jq_val rfl (fun w' hJ => r_extract rfl rfl) ?_
        refine jq_val rfl (fun w' hJ => ⟨rfl⟩) ?_
        refine jq_val rfl (fun w' hJ => ⟨rfl⟩) ?_
        refine jq_nil ?_
        refine calm_normal ?_
        refine then_normal ?_
        exact ⟨vd, ⟨rfl, rfl, rfl, rfl, rfl, rfl, rfl, rfl, trivial⟩, S.keep [true, true, true, true, false, true]⟩
    · refine kq_valE rfl (r_litF (D := fGSpot) [z] (fun y => .agg y.enc.toArray) S rfl rfl (fun _ => rfl) rfl (by decide) (by decide)) ?_; rintro _ w ⟨bl, rfl, -, -, S'⟩; refine ⟨S'.keep [true, true, true, true], ?_⟩; replace S := S'; clear S'
      refine wt_one ?_
      refine kq_valE rfl (r_lit0 (D := fGSpot) S) ?_; rintro vX w ⟨-, S'⟩; refine ⟨S'.keep [true, true, true, true], ?_⟩; replace S := S'; clear S'
      refine wt_one ?_
      refine kq_valE rfl (r_appendRd (i := 5) (l := []) (D := fGSpot) S rfl (S.rdRow (D := fGSpot) (i := 1) rfl) rfl rfl rfl (by decide) one_sp (by simp; omega) (by simp; omega)) ?_; rintro vX1 w ⟨-, S'⟩; refine ⟨S'.keep [true, true, true, true], ?_⟩; replace S := S'; clear S'
      refine wt_one ?_
      refine kq_valE rfl (r_appendRd (i := 5) (l := [] ++ sp) (D := fGSpot) S rfl (S.rdRow (D := fGSpot) (i := 4) rfl) rfl rfl rfl (by decide) one_sp (by simp; omega) (by simp; omega)) ?_; rintro vX2 w ⟨-, S'⟩; refine ⟨S'.keep [true, true, true, true], ?_⟩; replace S := S'; clear S'
      replace S : St w0 w [rowOb fGContract 29 (.slice AL l.length cL) l, rowOb fGSpot 31 (.slice AP sp.length cP) sp, .var bz 31 z.enc, rowOb (fInt .i64) 3 (.slice AA out.length cA) out, rowOb fGSpot 31 vX2 (sp ++ [z])] := by first | exact S.keep [true, true, true, true, true, false] | exact S.keep [true, true, true, true, false, true]
      refine wt_one ?_
      refine kq_callR rfl (r_call2 rfl rfl rfl) (counted_is (counted_t hokd) (S.rdRow (D := fGContract) (i := 0) rfl) (S.rdRow (D := fGSpot) (i := 4) rfl) (by omega) (by omega) (hG.mono S.below)) ?_; rintro _ w hb ⟨vd, rfl, hrow⟩; refine ⟨(S.new hb hrow).keep [true, true, true, true], ?_⟩; replace S := S.new hb hrow; clear hb hrow
      refine wt_fin ?_
      refine jq_val rfl (fun w' hJ => ⟨rfl⟩) ?_
      refine jq_val rfl (fun w' hJ => r_extract rfl rfl) ?_
      refine jq_val rfl (fun w' hJ => r_extract rfl rfl) ?_
      refine jq_val rfl (fun w' hJ => ⟨rfl⟩) ?_
      refine jq_val rfl (fun w' hJ => ⟨rfl⟩) ?_
      refine jq_nil ?_
      refine calm_normal ?_
      refine then_normal ?_
      exact ⟨vd, ⟨rfl, rfl, rfl, rfl, rfl, rfl, rfl, rfl, trivial⟩, S.keep [true, true, true, true, false, true]⟩
  clear S hs
  rintro σ w1 ⟨vd, hs, S⟩
  refine WP_has hs ?_
  rw [hlast] at S
  obtain ⟨n, hn⟩ : ∃ n, rsn l (cntS l sp) z = n := ⟨_, rfl⟩
  rw [hn] at S
  have hmm := @may_mem l sp z
  rw [hn] at hmm
  repeat' (first | refine WP_seq ?_ | refine WP_region ?_ | refine wl_nil ?_ | refine then_normal ?_ | (refine g_move ?_; refine st_move rfl ?_) | (refine g_assign ?_; refine st_assign rfl ?_) | (refine g_extract ?_; refine st_val rfl (r_extract rfl rfl) ?_) | (refine g_fieldAddr ?_; refine st_val rfl (r_fieldAddrL rfl) ?_) | (refine g_load ?_; first | refine st_val rfl (r_loadVar (i := 2) S rfl rfl rfl) ?_ | refine st_val rfl (r_loadVarA (i := 2) S rfl rfl rfl rfl) ?_) | (refine g_callV ?_; (refine st_callV rfl (r_call3 rfl rfl rfl rfl) (reasonC_is (x := z) ((reason_t hok hokz).trans (by rw [hn])) (S.rdRow (D := fGContract) (i := 0) rfl) (S.rdRow (D := fGSpot) (i := 1) rfl) (by omega) (by omega) (hG.mono S.below)) ?_; intro w hb; replace S := S.grow hb; clear hb)))
  refine st_callR rfl (r_call3 rfl rfl rfl rfl) (may_is (may_t hok (by omega)) (S.rdRow (D := fGContract) (i := 0) rfl) (S.rdRow (D := fGSpot) (i := 1) rfl) (by omega) (by omega) (hG.mono S.below)) ?_; rintro _ w hb ⟨vm, rfl, hrow⟩; replace S := S.new hb hrow; clear hb hrow
  have hasc := may_asc hvl (mayP l sp z.At)
  have hml : ((l.filter (mayP l sp z.At)).map fun c => c.ID).length ≤ 8 := by rw [List.length_map]; have := List.length_filter_le (mayP l sp z.At) l; omega
  obtain ⟨mv, hmv⟩ : ∃ mv, ((l.filter (mayP l sp z.At)).map fun c => c.ID) = mv := ⟨_, rfl⟩
  rw [hmv] at hmm hasc hml
  obtain ⟨af, haf⟩ : ∃ af, (if n = 0 then out ++ [(sp.length : Int)] else out) = af := ⟨_, rfl⟩
  have hafl : af.length ≤ 25 := by rw [← haf]; split <;> first | (rw [List.length_append, List.length_singleton]; omega) | omega
  replace S : St w0 w [rowOb fGContract 29 (.slice AL l.length cL) l, rowOb fGSpot 31 (.slice AP sp.length cP) sp, .var bz 31 z.enc, rowOb (fInt .i64) 3 (.slice AA out.length cA) out, rowOb (fInt .i64) 3 vd af, rowOb (fInt .i64) 3 vm mv] := by rw [← haf, ← hmv]; exact S
  obtain ⟨AM, cM', hz⟩ := (S.rdRow (D := fInt .i64) (i := 5) rfl).len; subst hz
  repeat' (first | refine WP_seq ?_ | refine WP_region ?_ | refine wl_nil ?_ | refine then_normal ?_ | refine WP_skip ?_ | refine WP_block ?_ | refine WP_condF rfl ?_ | (refine g_move ?_; refine st_move rfl ?_) | (refine g_assign ?_; refine st_assign rfl ?_) | (refine g_pick ?_; refine st_pickF rfl rfl ?_) | (refine g_b_neq ?_; refine st_val rfl (r_neq rfl rfl) ?_) | (refine g_extract ?_; refine st_val rfl (r_extract rfl rfl) ?_))
  refine WP_loop (fun m σ w1 => ∃ (i : Int) (b : Bool), Has σ [(9, .bool true), (11, .slice AP sp.length cP), (12, .pointer (some ⟨bz, 0, none⟩)), (14, .slice AA out.length cA), (16, vd), (18, .int .i64 n), (20, .slice AM mv.length cM'), (22, .bool b), (23, .int .i64 i)] ∧ St w0 w1 [rowOb fGContract 29 (.slice AL l.length cL) l, rowOb fGSpot 31 (.slice AP sp.length cP) sp, .var bz 31 z.enc, rowOb (fInt .i64) 3 (.slice AA out.length cA) out, rowOb (fInt .i64) 3 vd af, rowOb (fInt .i64) 3 (.slice AM mv.length cM') mv] ∧ 0 ≤ i ∧ i ≤ mv.length ∧ b = decide (z.Contract ∈ mv.take i.toNat) ∧ m = mv.length - i.toNat) mv.length ⟨0, _, ⟨rfl, rfl, rfl, rfl, rfl, rfl, rfl, rfl, rfl, trivial⟩, S, by omega, by omega, rfl, by omega⟩ ?_
  clear S hs
  rintro m2 σ w1 ⟨i2, b, hs, S, hi20, hi21, hbk, hm2⟩
  refine WP_has hs ?_
  by_cases hi2 : i2 < mv.length
  · have hstep : decide (z.Contract ∈ mv.take (i2 + 1).toNat) = (b || decide (nth mv i2 = z.Contract)) := by
      rw [show (i2 + 1).toNat = i2.toNat + 1 by omega, List.take_add_one, nth_get hi20 hi2, hbk, ← Bool.decide_or, decide_eq_decide, Option.toList_some, List.mem_append, List.mem_singleton]
      constructor
      · rintro (h | h)
        · exact .inl h
        · exact .inr h.symm
      · rintro (h | h)
        · exact .inl h
        · exact .inr h.symm
    have hlt : i2 ≤ 0 ∨ nth mv (i2 - 1) < nth mv i2 := by
      by_cases h : 0 < i2
      · exact .inr (asc_at hasc h hi2)
      · exact .inl (by omega)
    cases b with
    | true =>
      repeat' (first | refine WP_seq ?_ | refine WP_region ?_ | refine wl_nil ?_ | refine then_normal ?_ | refine inB_normal ?_ | refine WP_skip ?_ | refine WP_block ?_ | refine WP_condF rfl ?_ | refine WP_draw (by kernel_rfl) (by kernel_rfl) ?_ | (refine ql_nil ?_; intro w hb; replace S := S.grow hb; clear hb) | (refine g_move ?_; refine st_move rfl ?_) | (refine g_assign ?_; refine st_assign rfl ?_) | (refine g_b_add ?_; (refine st_val rfl (r_addN rfl rfl ?_ ?_) ?_; (first | omega | (simp <;> omega)); (first | omega | (simp <;> omega)))) | (refine g_b_lss ?_; refine st_val rfl (r_lss rfl rfl) ?_) | (refine g_c_len ?_; refine st_val rfl (r_lenSlice rfl) ?_) | (refine gq_guard ?_; refine q_off rfl ?_) | (refine gq_move ?_; refine q_move rfl ?_) | (refine gq_assign ?_; refine q_assign rfl ?_) | (refine gq_pick ?_; first | refine q_pickT rfl rfl ?_ | refine q_pickF rfl rfl ?_) | (refine gq_b_sub ?_; (refine q_val rfl (fun w' hb => r_subN rfl rfl ?_ ?_) ?_; (first | omega | (simp <;> omega)); (first | omega | (simp <;> omega)))) | (refine gq_b_leq ?_; refine q_val rfl (fun w' hb => r_leq rfl rfl) ?_) | (refine gq_b_gtr ?_; refine q_val rfl (fun w' hb => r_gtr rfl rfl) ?_) | (refine gq_indexAddr ?_; (refine q_val rfl (fun w' hb => r_indexAddr ((S.grow hb).rdRow (D := (fInt .i64)) (i := 5) rfl) rfl rfl ?_ ?_) ?_; (first | omega | (simp <;> omega)); (first | omega | (simp <;> omega)))) | (refine gq_load ?_; (refine q_val rfl (fun w' hb => r_loadElem1 ((S.grow hb).rdRow (D := (fInt .i64)) (i := 5) rfl) rfl ?_ ?_ rfl) ?_; (first | omega | (simp <;> omega)); (first | omega | (simp <;> omega)))) | (refine ql_split rfl rfl (fun h => ?_) (fun h => ?_) <;> (fail_if_success (have hh : true = true := h)) <;> (fail_if_success (have hh : false = false := h)) <;> (try simp only [decide_eq_true_eq, decide_eq_false_iff_not, Bool.not_eq_true', Bool.not_eq_false', Int.not_lt, Int.not_le] at h) <;> (try (exfalso; omega))) | (refine WP_cond rfl (fun h => ?_) (fun h => ?_) <;> (fail_if_success (have hh : true = true := h)) <;> (fail_if_success (have hh : false = false := h)) <;> (try simp only [decide_eq_true_eq, decide_eq_false_iff_not, Bool.not_eq_true', Bool.not_eq_false', Int.not_lt, Int.not_le] at h) <;> (try (exfalso; omega))))
      all_goals
        refine ⟨⟨_, ?_, i2 + 1, _, ⟨rfl, rfl, rfl, rfl, rfl, rfl, rfl, rfl, rfl, trivial⟩, S, by omega, by omega, by rw [hstep]; rfl, rfl⟩⟩
        omega
    | false =>
      repeat' (first | refine WP_seq ?_ | refine WP_region ?_ | refine wl_nil ?_ | refine then_normal ?_ | refine inB_normal ?_ | refine WP_skip ?_ | refine WP_block ?_ | refine WP_condF rfl ?_ | refine WP_draw (by kernel_rfl) (by kernel_rfl) ?_ | (refine ql_nil ?_; intro w hb; replace S := S.grow hb; clear hb) | (refine g_move ?_; refine st_move rfl ?_) | (refine g_assign ?_; refine st_assign rfl ?_) | (refine g_b_add ?_; (refine st_val rfl (r_addN rfl rfl ?_ ?_) ?_; (first | omega | (simp <;> omega)); (first | omega | (simp <;> omega)))) | (refine g_b_lss ?_; refine st_val rfl (r_lss rfl rfl) ?_) | (refine g_c_len ?_; refine st_val rfl (r_lenSlice rfl) ?_) | (refine gq_guard ?_; refine q_off rfl ?_) | (refine gq_move ?_; refine q_move rfl ?_) | (refine gq_assign ?_; refine q_assign rfl ?_) | (refine gq_pick ?_; first | refine q_pickT rfl rfl ?_ | refine q_pickF rfl rfl ?_) | (refine gq_b_sub ?_; (refine q_val rfl (fun w' hb => r_subN rfl rfl ?_ ?_) ?_; (first | omega | (simp <;> omega)); (first | omega | (simp <;> omega)))) | (refine gq_b_eql ?_; refine q_val rfl (fun w' hb => r_eql rfl rfl) ?_) | (refine gq_b_leq ?_; refine q_val rfl (fun w' hb => r_leq rfl rfl) ?_) | (refine gq_b_gtr ?_; refine q_val rfl (fun w' hb => r_gtr rfl rfl) ?_) | (refine gq_fieldAddr ?_; refine q_val rfl (fun w' hb => r_fieldAddrL rfl) ?_) | (refine gq_indexAddr ?_; (refine q_val rfl (fun w' hb => r_indexAddr ((S.grow hb).rdRow (D := (fInt .i64)) (i := 5) rfl) rfl rfl ?_ ?_) ?_; (first | omega | (simp <;> omega)); (first | omega | (simp <;> omega)))) | (refine gq_load ?_; first | (refine q_val rfl (fun w' hb => r_loadElem1 ((S.grow hb).rdRow (D := (fInt .i64)) (i := 5) rfl) rfl ?_ ?_ rfl) ?_; (first | omega | (simp <;> omega)); (first | omega | (simp <;> omega))) | refine q_val rfl (fun w' hb => r_loadVar (i := 2) (S.grow hb) rfl rfl rfl) ?_) | (refine ql_split rfl rfl (fun h => ?_) (fun h => ?_) <;> (fail_if_success (have hh : true = true := h)) <;> (fail_if_success (have hh : false = false := h)) <;> (try simp only [decide_eq_true_eq, decide_eq_false_iff_not, Bool.not_eq_true', Bool.not_eq_false', Int.not_lt, Int.not_le] at h) <;> (try (exfalso; omega))) | (refine WP_cond rfl (fun h => ?_) (fun h => ?_) <;> (fail_if_success (have hh : true = true := h)) <;> (fail_if_success (have hh : false = false := h)) <;> (try simp only [decide_eq_true_eq, decide_eq_false_iff_not, Bool.not_eq_true', Bool.not_eq_false', Int.not_lt, Int.not_le] at h) <;> (try (exfalso; omega))))
      all_goals
        refine ⟨⟨_, ?_, i2 + 1, _, ⟨rfl, rfl, rfl, rfl, rfl, rfl, rfl, rfl, rfl, trivial⟩, S, by omega, by omega, by rw [hstep]; rfl, rfl⟩⟩
        omega
  have hit : i2.toNat = mv.length := by omega
  rw [hit, List.take_length] at hbk
  by_cases h0 : n = 0
  · subst h0
    have hbt : b = true := by rw [hbk]; exact decide_eq_true (hmm.2 rfl)
    subst hbt
    rw [if_pos rfl] at haf
    repeat' (first | refine WP_seq ?_ | refine WP_region ?_ | refine wl_nil ?_ | refine then_normal ?_ | refine then_exit ?_ | refine inB_here ?_ | refine WP_exit ?_ | refine WP_condT rfl ?_ | (refine g_move ?_; refine st_move rfl ?_) | (refine g_pick ?_; refine st_pickT rfl rfl ?_) | (refine g_b_eql ?_; refine st_val rfl (r_eql rfl rfl) ?_) | (refine g_b_lss ?_; refine st_val rfl (r_lss rfl rfl) ?_) | (refine g_c_len ?_; refine st_val rfl (r_lenSlice rfl) ?_) | (refine WP_cond rfl (fun h => ?_) (fun h => ?_) <;> (fail_if_success (have hh : true = true := h)) <;> (fail_if_success (have hh : false = false := h)) <;> (try simp only [decide_eq_true_eq, decide_eq_false_iff_not, Bool.not_eq_true', Bool.not_eq_false', Int.not_lt, Int.not_le] at h) <;> (try (exfalso; omega))))
    refine st_valE rfl (r_lit0 (D := fInt .i64) S) ?_
    rintro vn w ⟨-, S'⟩; replace S := S'; clear S'
    repeat' ((refine g_move ?_; refine st_move rfl ?_))
    refine st_valE rfl (r_appendRd (i := 6) (l := []) (D := fInt .i64) S rfl (S.rdRow (D := fInt .i64) (i := 3) rfl) rfl rfl rfl (by decide) fI_one (by simp; omega) (by simp; omega)) ?_
    rintro vn1 w ⟨-, S'⟩; replace S := S'; clear S'
    repeat' (first | (refine g_move ?_; refine st_move rfl ?_) | (refine g_c_len ?_; refine st_val rfl (r_lenSlice rfl) ?_))
    refine st_valE rfl (r_litF (D := fInt .i64) [(sp.length : Int)] (Value.int .i64) S rfl rfl (fun _ => rfl) rfl (by decide) (by decide)) ?_
    rintro _ w ⟨bl, rfl, -, -, S'⟩; replace S := S'; clear S'
    skip
    refine st_valE rfl (r_appendRd (i := 6) (l := [] ++ out) (D := fInt .i64) S rfl (S.rdRow (D := fInt .i64) (i := 7) rfl) rfl rfl rfl (by decide) fI_one (by simp; omega) (by simp; omega)) ?_
    rintro vn2 w ⟨-, S'⟩; replace S := S'; clear S'
    repeat' (first | refine wl_nil ?_ | refine then_normal ?_ | refine then_ret ?_ | refine WP_ret ?_ | (refine g_assign ?_; refine st_assign rfl ?_) | (refine g_pick ?_; refine st_pickT rfl rfl ?_) | (refine g_callV ?_; (refine st_callV rfl (r_call2 rfl rfl rfl) (ints_is (b := true) (l := af) (m := out ++ [(sp.length : Int)]) (decide_eq_true haf.symm) (S.rdRow (D := fInt .i64) (i := 4) rfl) (S.rdRow (D := fInt .i64) (i := 6) rfl) (by omega) (by simp; omega)) ?_; intro w hb; replace S := S.grow hb; clear hb)))
    all_goals exact end1 rfl rfl ⟨rfl, S.below⟩
  · have hbf : b = false := by rw [hbk]; exact decide_eq_false fun h => h0 (hmm.1 h)
    subst hbf
    rw [if_neg h0] at haf
    repeat' (first | refine WP_seq ?_ | refine WP_region ?_ | refine wl_nil ?_ | refine then_normal ?_ | refine then_exit ?_ | refine inB_here ?_ | refine WP_ret ?_ | refine WP_skip ?_ | refine WP_exit ?_ | (refine g_move ?_; refine st_move rfl ?_) | (refine g_assign ?_; refine st_assign rfl ?_) | (refine g_pick ?_; refine st_pickT rfl rfl ?_) | (refine g_b_eql ?_; refine st_val rfl (r_eql rfl rfl) ?_) | (refine g_b_lss ?_; refine st_val rfl (r_lss rfl rfl) ?_) | (refine g_un ?_; refine st_val rfl (r_not rfl) ?_) | (refine g_c_len ?_; refine st_val rfl (r_lenSlice rfl) ?_) | (refine g_callV ?_; (refine st_callV rfl (r_call2 rfl rfl rfl) (ints_is (b := true) (l := af) (m := out) (decide_eq_true haf.symm) (S.rdRow (D := fInt .i64) (i := 4) rfl) (S.rdRow (D := fInt .i64) (i := 3) rfl) (by omega) (by omega)) ?_; intro w hb; replace S := S.grow hb; clear hb)) | (refine WP_cond rfl (fun h => ?_) (fun h => ?_) <;> (fail_if_success (have hh : true = true := h)) <;> (fail_if_success (have hh : false = false := h)) <;> (try simp only [decide_eq_true_eq, decide_eq_false_iff_not, Bool.not_eq_true', Bool.not_eq_false', Int.not_lt, Int.not_le] at h) <;> (try (exfalso; omega))))
    all_goals exact end1 rfl rfl ⟨rfl, S.below⟩
end Go.Proofs.YteplelijhkmbkaaDoor
