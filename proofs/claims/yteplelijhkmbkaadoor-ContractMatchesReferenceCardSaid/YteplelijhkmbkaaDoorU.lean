import Derived.Test.YteplelijhkmbkaaDoorT
namespace Go.Proofs.YteplelijhkmbkaaDoor
open Go Go.Gx Go.RowKit
set_option linter.unusedVariables false
set_option linter.unusedSimpArgs false

theorem ord_ins {sp : List GSpot} {out : List Int} {i k : Nat} (hp : out.Perm (tab idf i)) (hw : out.Pairwise (RS (cS sp))) (hk : k ≤ out.length) (h1 : k = 0 ∨ cS sp i (nth out ((k : Int) - 1)) = false) (h2 : ∀ b ∈ out.drop k, cS sp i b = true) :
    (out.take k ++ (i : Int) :: out.drop k).Perm (tab idf (i + 1)) ∧ (out.take k ++ (i : Int) :: out.drop k).Pairwise (RS (cS sp)) := by
  have e : out.take k ++ out.drop k = out := List.take_append_drop ..
  have et : tab idf (i + 1) = tab idf i ++ [(i : Int)] := by unfold tab; rw [List.range_succ, List.map_append]; rfl
  refine ⟨?_, ?_⟩
  · refine List.perm_middle.trans ?_
    rw [e, et]
    exact (List.perm_append_singleton _ _).symm.trans (hp.append_right _)
  · refine put_fits (cS_sw sp) (by rw [e]; exact hw) (fun y hy => ?_) (fun A' y h => ?_) h2
    · rw [e] at hy
      have := hp.mem_iff.1 hy
      unfold tab at this
      obtain ⟨j, hj, rfl⟩ := List.mem_map.1 this
      have := List.mem_range.1 hj; simp only [idf]; omega
    · have hl := congrArg List.length h
      rw [List.length_take, List.length_append, List.length_singleton] at hl
      rcases h1 with h1 | h1
      · omega
      · have hg : (out.take k)[k - 1]? = some y := by
          rw [h, List.getElem?_append_right (by omega), show k - 1 - A'.length = 0 by omega]; rfl
        rw [List.getElem?_take_of_lt (by omega)] at hg
        have := nth_get (l := out) (i := (k : Int) - 1) (by omega) (by omega)
        rw [show ((k : Int) - 1).toNat = k - 1 by omega, hg] at this
        have := Option.some.inj this
        rw [this]; exact h1
theorem fI_one : ∀ x, ∀ u ∈ (fInt .i64).enc x, u.oneCell' = true := by intro x u hu; cases List.mem_singleton.1 hu; rfl
set_option maxHeartbeats 1000000 in
theorem order_run {v : Value} {sp : List GSpot} {w0 : World} (hr : Rd fGSpot.ty w0 v sp) (hl : sp.length ≤ 1000000) :
    CallsR Tryd.prog 37 #[v] w0 (fun r w' => NewRow (fInt .i64) 3 w0 w' r (ordI sp)) := by
  have S := St.start w0
  obtain ⟨A, c, rfl⟩ := hr.len
  refine CallsR.mk ?_
  refine calls_enter Tryd.func37 rfl (by intro _ h; first | exact nomatch h.1 | (obtain ⟨_, h, _⟩ := h; exact nomatch h)) Tryd.ntmps37 rfl ?_
  repeat' (first | refine WP_seq ?_ | refine WP_region ?_ | refine wl_nil ?_ | refine then_normal ?_ | refine WP_block ?_ | (refine g_assign ?_; refine st_assign rfl ?_))
  replace S := S.nilRow (fInt .i64) 3
  refine WP_loop (fun m σ w1 => ∃ (i : Nat) (p : Int) (vr : Value) (out : List Int), Has σ [(0, .slice A sp.length c), (3, vr), (4, .int .i64 p)] ∧ St w0 w1 [rowOb (fInt .i64) 3 vr out] ∧ p = i ∧ i ≤ sp.length ∧ out.Perm (tab idf i) ∧ out.Pairwise (RS (cS sp)) ∧ m = sp.length - i) sp.length ⟨0, _, _, [], ⟨rfl, rfl, rfl, trivial⟩, S, rfl, by omega, List.Perm.refl _, List.Pairwise.nil, rfl⟩ ?_
  clear S
  rintro m σ w1 ⟨i, p, vr, out, hs, S, hp, hi1, hpm, hpw, hm⟩
  refine WP_has hs ?_
  have hol : out.length = i := by rw [hpm.length_eq, tab_len]
  obtain ⟨A3, c3, hz⟩ := (S.rdRow (D := fInt .i64) (i := 0) rfl).len; subst hz
  by_cases hi : i < sp.length
  · repeat' (first | refine WP_seq ?_ | refine WP_region ?_ | refine wl_nil ?_ | refine then_normal ?_ | refine WP_skip ?_ | refine WP_block ?_ | (refine g_move ?_; refine st_move rfl ?_) | (refine g_assign ?_; refine st_assign rfl ?_) | (refine g_b_lss ?_; refine st_val rfl (r_lss rfl rfl) ?_) | (refine g_c_len ?_; refine st_val rfl (r_lenSlice rfl) ?_) | (refine WP_cond rfl (fun h => ?_) (fun h => ?_) <;> (fail_if_success (have hh : true = true := h)) <;> (fail_if_success (have hh : false = false := h)) <;> (try simp only [decide_eq_true_eq, decide_eq_false_iff_not, Bool.not_eq_true', Bool.not_eq_false', Int.not_lt, Int.not_le] at h) <;> (try (exfalso; omega))))
    refine WP_loop (fun m σ w1 => ∃ (k : Nat) (q : Int), Has σ [(0, .slice A sp.length c), (3, .slice A3 out.length c3), (4, .int .i64 p), (5, .int .i64 q)] ∧ St w0 w1 [rowOb (fInt .i64) 3 (.slice A3 out.length c3) out] ∧ q = k ∧ k ≤ out.length ∧ (∀ b ∈ out.drop k, cS sp i b = true) ∧ m = k) out.length ⟨out.length, _, ⟨rfl, rfl, rfl, rfl, trivial⟩, S, rfl, Nat.le_refl _, (by intro b hb; rw [List.drop_length] at hb; cases hb), rfl⟩ ?_
    clear S hs
    rintro m' σ w1 ⟨k, q, hs, S, hq, hkl, hall, hm'⟩
    refine WP_has hs ?_
    have hins : (k = 0 ∨ cS sp i (nth out ((k : Int) - 1)) = false) → _ := fun h => ord_ins (i := i) hpm hpw hkl h hall
    by_cases hk0 : 0 < k
    · have hm1 : nth out (q - 1) ∈ out := nth_mem (by omega) (by omega)
      have hor : 0 ≤ nth out (q - 1) ∧ nth out (q - 1) < sp.length := by
        have := hpm.mem_iff.1 hm1
        unfold tab at this
        obtain ⟨j, hj, e⟩ := List.mem_map.1 this
        have := List.mem_range.1 hj; rw [← e]; simp only [idf]; omega
      have hcs := @cS_iff sp p (nth out (q - 1))
      by_cases hc : cS sp p (nth out (q - 1)) = true
      · have hc' := hcs.1 hc
        repeat' (first | refine WP_seq ?_ | refine WP_region ?_ | refine wl_nil ?_ | refine then_normal ?_ | refine inB_normal ?_ | refine WP_skip ?_ | refine WP_block ?_ | refine WP_condF rfl ?_ | refine WP_draw (by kernel_rfl) (by kernel_rfl) ?_ | (refine ql_nil ?_; intro w hb; replace S := S.grow hb; clear hb) | (refine g_move ?_; refine st_move rfl ?_) | (refine g_assign ?_; refine st_assign rfl ?_) | (refine g_b_sub ?_; (refine st_val rfl (r_subN rfl rfl ?_ ?_) ?_; (first | omega | (simp <;> omega)); (first | omega | (simp <;> omega)))) | (refine g_b_gtr ?_; refine st_val rfl (r_gtr rfl rfl) ?_) | (refine g_indexAddr ?_; first | (refine st_val rfl (r_indexAddr (hr.mono S.below) rfl rfl ?_ ?_) ?_; (first | omega | (simp <;> omega)); (first | omega | (simp <;> omega))) | (refine st_val rfl (r_indexAddr (S.rdRow (D := (fInt .i64)) (i := 0) rfl) rfl rfl ?_ ?_) ?_; (first | omega | (simp <;> omega)); (first | omega | (simp <;> omega)))) | (refine g_load ?_; first | (refine st_val rfl (r_loadElem (hr.mono S.below) rfl ?_ ?_) ?_; (first | omega | (simp <;> omega)); (first | omega | (simp <;> omega))) | (refine st_val rfl (r_loadElem1 (S.rdRow (D := (fInt .i64)) (i := 0) rfl) rfl ?_ ?_ rfl) ?_; (first | omega | (simp <;> omega)); (first | omega | (simp <;> omega)))) | (refine gq_guard ?_; refine q_off rfl ?_) | (refine gq_move ?_; refine q_move rfl ?_) | (refine gq_pick ?_; first | refine q_pickT rfl rfl ?_ | refine q_pickF rfl rfl ?_) | (refine gq_b_eql ?_; refine q_val rfl (fun w' hb => r_eql rfl rfl) ?_) | (refine gq_b_lss ?_; refine q_val rfl (fun w' hb => r_lss rfl rfl) ?_) | (refine gq_b_leq ?_; refine q_val rfl (fun w' hb => r_leq rfl rfl) ?_) | (refine gq_fieldAddr ?_; first | refine q_val rfl (fun w' hb => r_fieldAddrL rfl) ?_ | refine q_val rfl (fun w' hb => r_fieldAddr rfl) ?_) | (refine gq_indexAddr ?_; (refine q_val rfl (fun w' hb => r_indexAddr (hr.mono (S.grow hb).below) rfl rfl ?_ ?_) ?_; (first | omega | (simp <;> omega)); (first | omega | (simp <;> omega)))) | (refine gq_load ?_; first | (refine q_val rfl (fun w' hb => r_loadElem1 (hr.mono (S.grow hb).below) rfl ?_ ?_ rfl) ?_; (first | omega | (simp <;> omega)); (first | omega | (simp <;> omega))) | (refine q_val rfl (fun w' hb => r_loadElemF (hr.mono (S.grow hb).below) rfl ?_ ?_ rfl) ?_; (first | omega | (simp <;> omega)); (first | omega | (simp <;> omega))) | refine q_val rfl (fun w' hb => r_loadVar (i := 1) (S.grow hb) rfl rfl rfl) ?_) | (refine g_alloc ?_; refine st_valE rfl (r_alloc S) ?_; rintro _ w ⟨b, rfl, -, S'⟩; replace S := S'; clear S') | (refine g_store ?_; first | (refine st_skipE rfl (r_storeVar (i := 0) S rfl rfl rfl rfl (of_decide_eq_true rfl) (of_decide_eq_true rfl)) ?_; intro w S'; replace S := S'; clear S') | (refine st_skipE rfl (r_storeVar (i := 1) S rfl rfl rfl rfl (of_decide_eq_true rfl) (of_decide_eq_true rfl)) ?_; intro w S'; replace S := S'; clear S')) | (refine ql_split rfl rfl (fun h => ?_) (fun h => ?_) <;> (fail_if_success (have hh : true = true := h)) <;> (fail_if_success (have hh : false = false := h)) <;> (try simp only [decide_eq_true_eq, decide_eq_false_iff_not, Bool.not_eq_true', Bool.not_eq_false', Int.not_lt, Int.not_le] at h) <;> (try (exfalso; omega))) | (refine WP_cond rfl (fun h => ?_) (fun h => ?_) <;> (fail_if_success (have hh : true = true := h)) <;> (fail_if_success (have hh : false = false := h)) <;> (try simp only [decide_eq_true_eq, decide_eq_false_iff_not, Bool.not_eq_true', Bool.not_eq_false', Int.not_lt, Int.not_le] at h) <;> (try (exfalso; omega))))
        all_goals
          refine ⟨⟨_, ?_, k - 1, _, ⟨rfl, rfl, rfl, rfl, trivial⟩, S.keep [true], by omega, by omega, fun b hb => ?_, rfl⟩⟩
          · omega
          · have hd : out.drop (k - 1) = nth out (q - 1) :: out.drop k := by
              have hg := nth_get (l := out) (i := q - 1) (by omega) (by omega)
              rw [show (q - 1).toNat = k - 1 by omega] at hg
              obtain ⟨hlt, e⟩ := List.getElem?_eq_some_iff.1 hg
              rw [List.drop_eq_getElem_cons hlt, e, show k - 1 + 1 = k by omega]
            rw [hd] at hb
            rcases List.mem_cons.1 hb with rfl | hb
            · rw [← hp]; exact hc
            · exact hall b hb
      · have hc' : ¬ ((nth sp p).At < (nth sp (nth out (q - 1))).At ∨ ((nth sp p).At = (nth sp (nth out (q - 1))).At ∧ (nth sp p).Contract < (nth sp (nth out (q - 1))).Contract)) := fun h => hc (hcs.2 h)
        have hc2 : (nth sp (nth out (q - 1))).At < (nth sp p).At ∨ ((nth sp (nth out (q - 1))).At = (nth sp p).At ∧ (nth sp (nth out (q - 1))).Contract ≤ (nth sp p).Contract) := by omega
        obtain ⟨hP, hW⟩ := hins (.inr (by rw [← hp, ← hq]; simpa using hc))
        repeat' (first | refine WP_seq ?_ | refine WP_region ?_ | refine wl_nil ?_ | refine then_normal ?_ | refine then_exit ?_ | refine inB_here ?_ | refine inB_past rfl ?_ | refine WP_skip ?_ | refine WP_exit ?_ | refine WP_block ?_ | refine WP_condT rfl ?_ | refine WP_draw (by kernel_rfl) (by kernel_rfl) ?_ | (refine ql_nil ?_; intro w hb; replace S := S.grow hb; clear hb) | (refine g_move ?_; refine st_move rfl ?_) | (refine g_b_sub ?_; (refine st_val rfl (r_subN rfl rfl ?_ ?_) ?_; (first | omega | (simp <;> omega)); (first | omega | (simp <;> omega)))) | (refine g_b_gtr ?_; refine st_val rfl (r_gtr rfl rfl) ?_) | (refine g_indexAddr ?_; first | (refine st_val rfl (r_indexAddr (hr.mono S.below) rfl rfl ?_ ?_) ?_; (first | omega | (simp <;> omega)); (first | omega | (simp <;> omega))) | (refine st_val rfl (r_indexAddr (S.rdRow (D := (fInt .i64)) (i := 0) rfl) rfl rfl ?_ ?_) ?_; (first | omega | (simp <;> omega)); (first | omega | (simp <;> omega)))) | (refine g_load ?_; first | (refine st_val rfl (r_loadElem (hr.mono S.below) rfl ?_ ?_) ?_; (first | omega | (simp <;> omega)); (first | omega | (simp <;> omega))) | (refine st_val rfl (r_loadElem1 (S.rdRow (D := (fInt .i64)) (i := 0) rfl) rfl ?_ ?_ rfl) ?_; (first | omega | (simp <;> omega)); (first | omega | (simp <;> omega)))) | (refine gq_guard ?_; refine q_off rfl ?_) | (refine gq_move ?_; refine q_move rfl ?_) | (refine gq_pick ?_; first | refine q_pickT rfl rfl ?_ | refine q_pickF rfl rfl ?_) | (refine gq_b_eql ?_; refine q_val rfl (fun w' hb => r_eql rfl rfl) ?_) | (refine gq_b_lss ?_; refine q_val rfl (fun w' hb => r_lss rfl rfl) ?_) | (refine gq_b_leq ?_; refine q_val rfl (fun w' hb => r_leq rfl rfl) ?_) | (refine gq_fieldAddr ?_; first | refine q_val rfl (fun w' hb => r_fieldAddrL rfl) ?_ | refine q_val rfl (fun w' hb => r_fieldAddr rfl) ?_) | (refine gq_indexAddr ?_; (refine q_val rfl (fun w' hb => r_indexAddr (hr.mono (S.grow hb).below) rfl rfl ?_ ?_) ?_; (first | omega | (simp <;> omega)); (first | omega | (simp <;> omega)))) | (refine gq_load ?_; first | (refine q_val rfl (fun w' hb => r_loadElem1 (hr.mono (S.grow hb).below) rfl ?_ ?_ rfl) ?_; (first | omega | (simp <;> omega)); (first | omega | (simp <;> omega))) | (refine q_val rfl (fun w' hb => r_loadElemF (hr.mono (S.grow hb).below) rfl ?_ ?_ rfl) ?_; (first | omega | (simp <;> omega)); (first | omega | (simp <;> omega))) | refine q_val rfl (fun w' hb => r_loadVar (i := 1) (S.grow hb) rfl rfl rfl) ?_) | (refine g_alloc ?_; refine st_valE rfl (r_alloc S) ?_; rintro _ w ⟨b, rfl, -, S'⟩; replace S := S'; clear S') | (refine g_store ?_; first | (refine st_skipE rfl (r_storeVar (i := 0) S rfl rfl rfl rfl (of_decide_eq_true rfl) (of_decide_eq_true rfl)) ?_; intro w S'; replace S := S'; clear S') | (refine st_skipE rfl (r_storeVar (i := 1) S rfl rfl rfl rfl (of_decide_eq_true rfl) (of_decide_eq_true rfl)) ?_; intro w S'; replace S := S'; clear S')) | (refine ql_split rfl rfl (fun h => ?_) (fun h => ?_) <;> (fail_if_success (have hh : true = true := h)) <;> (fail_if_success (have hh : false = false := h)) <;> (try simp only [decide_eq_true_eq, decide_eq_false_iff_not, Bool.not_eq_true', Bool.not_eq_false', Int.not_lt, Int.not_le] at h) <;> (try (exfalso; omega))) | (refine WP_cond rfl (fun h => ?_) (fun h => ?_) <;> (fail_if_success (have hh : true = true := h)) <;> (fail_if_success (have hh : false = false := h)) <;> (try simp only [decide_eq_true_eq, decide_eq_false_iff_not, Bool.not_eq_true', Bool.not_eq_false', Int.not_lt, Int.not_le] at h) <;> (try (exfalso; omega))))
        all_goals
          replace S : St w0 w [rowOb (fInt .i64) 3 (.slice A3 out.length c3) out] := S.keep [true]
          refine st_valE rfl (r_lit0 (D := fInt .i64) S) ?_
          rintro vn w ⟨-, S'⟩; replace S := S'; clear S'
          repeat' ((refine g_move ?_; refine st_move rfl ?_))
          refine st_val rfl (r_sliceHi (S.rdRow (D := fInt .i64) (i := 0) rfl) rfl rfl (by omega) (by omega)) ?_
          refine st_valE rfl (r_appendRd (i := 1) (l := []) (D := fInt .i64) S rfl ((S.rdRow (D := fInt .i64) (i := 0) rfl).cut (lo := 0) (hi := q.toNat) (by omega) (by omega)) rfl rfl rfl (by decide) fI_one (by simp; omega) (by simp; omega)) ?_
          rintro vn1 w ⟨-, S'⟩; replace S := S'; clear S'
          repeat' (first | refine WP_seq ?_ | refine WP_region ?_ | refine wl_nil ?_ | refine then_normal ?_ | (refine g_move ?_; refine st_move rfl ?_) | (refine g_assign ?_; refine st_assign rfl ?_))
          refine st_valE rfl (r_litF (D := fInt .i64) [p] (Value.int .i64) S rfl rfl (fun _ => rfl) rfl (by decide) (by decide)) ?_
          rintro _ w ⟨bl, rfl, -, hcl, S'⟩; replace S := S'; clear S'
          refine st_valE rfl (r_append1 (D := fInt .i64) (i := 1) (b := bl) (x := p) S rfl rfl rfl (fl_one hcl) rfl (by decide) (of_decide_eq_true rfl) (by simp; omega) (by simp; omega)) ?_
          rintro vn2 w ⟨-, S'⟩; replace S := S'; clear S' hcl
          repeat' (first | refine WP_region ?_ | refine wl_nil ?_ | refine then_normal ?_ | (refine g_move ?_; refine st_move rfl ?_) | (refine g_assign ?_; refine st_assign rfl ?_))
          refine st_val rfl (r_sliceLo (S.rdRow (D := fInt .i64) (i := 0) rfl) rfl rfl (by omega) (by omega)) ?_
          refine st_valE rfl (r_appendRd (i := 1) (D := fInt .i64) S rfl ((S.rdRow (D := fInt .i64) (i := 0) rfl).cut (lo := q.toNat) (hi := out.length) (by omega) (by omega)) rfl rfl rfl (by decide) fI_one (by simp; omega) (by simp; omega)) ?_
          rintro vn3 w ⟨-, S'⟩; replace S := S'; clear S'
          repeat' (first | refine WP_region ?_ | refine wl_nil ?_ | refine then_normal ?_ | refine inB_normal ?_ | (refine g_move ?_; refine st_move rfl ?_) | (refine g_assign ?_; refine st_assign rfl ?_) | (refine g_b_add ?_; (refine st_val rfl (r_addN rfl rfl ?_ ?_) ?_; (first | omega | (simp <;> omega)); (first | omega | (simp <;> omega)))))
          have eX : [] ++ (out.take q.toNat).drop 0 ++ [p] ++ (out.take out.length).drop q.toNat = out.take k ++ (i : Int) :: out.drop k := by
            rw [hp, hq, Int.toNat_natCast, List.take_length]; simp
          replace S : St w0 w [rowOb (fInt .i64) 3 vn3 (out.take k ++ (i : Int) :: out.drop k)] := by rw [← eX]; exact S.keep [false, true]
          refine ⟨⟨_, ?_, i + 1, _, vn3, _, ⟨rfl, rfl, rfl, trivial⟩, S, by omega, by omega, hP, hW, rfl⟩⟩
          omega
    · have hq0 : q = 0 := by omega
      obtain ⟨hP, hW⟩ := hins (.inl (by omega))
      repeat' (first | refine WP_seq ?_ | refine WP_region ?_ | refine wl_nil ?_ | refine then_normal ?_ | refine then_exit ?_ | refine inB_here ?_ | refine WP_exit ?_ | (refine g_move ?_; refine st_move rfl ?_) | (refine g_b_gtr ?_; refine st_val rfl (r_gtr rfl rfl) ?_) | (refine WP_cond rfl (fun h => ?_) (fun h => ?_) <;> (fail_if_success (have hh : true = true := h)) <;> (fail_if_success (have hh : false = false := h)) <;> (try simp only [decide_eq_true_eq, decide_eq_false_iff_not, Bool.not_eq_true', Bool.not_eq_false', Int.not_lt, Int.not_le] at h) <;> (try (exfalso; omega))))
      all_goals
        replace S : St w0 w1 [rowOb (fInt .i64) 3 (.slice A3 out.length c3) out] := S.keep [true]
        refine st_valE rfl (r_lit0 (D := fInt .i64) S) ?_
        rintro vn w ⟨-, S'⟩; replace S := S'; clear S'
        repeat' ((refine g_move ?_; refine st_move rfl ?_))
        refine st_val rfl (r_sliceHi (S.rdRow (D := fInt .i64) (i := 0) rfl) rfl rfl (by omega) (by omega)) ?_
        refine st_valE rfl (r_appendRd (i := 1) (l := []) (D := fInt .i64) S rfl ((S.rdRow (D := fInt .i64) (i := 0) rfl).cut (lo := 0) (hi := q.toNat) (by omega) (by omega)) rfl rfl rfl (by decide) fI_one (by simp; omega) (by simp; omega)) ?_
        rintro vn1 w ⟨-, S'⟩; replace S := S'; clear S'
        repeat' (first | refine WP_seq ?_ | refine WP_region ?_ | refine wl_nil ?_ | refine then_normal ?_ | (refine g_move ?_; refine st_move rfl ?_) | (refine g_assign ?_; refine st_assign rfl ?_))
        refine st_valE rfl (r_litF (D := fInt .i64) [p] (Value.int .i64) S rfl rfl (fun _ => rfl) rfl (by decide) (by decide)) ?_
        rintro _ w ⟨bl, rfl, -, hcl, S'⟩; replace S := S'; clear S'
        refine st_valE rfl (r_append1 (D := fInt .i64) (i := 1) (b := bl) (x := p) S rfl rfl rfl (fl_one hcl) rfl (by decide) (of_decide_eq_true rfl) (by simp; omega) (by simp; omega)) ?_
        rintro vn2 w ⟨-, S'⟩; replace S := S'; clear S' hcl
        repeat' (first | refine WP_region ?_ | refine wl_nil ?_ | refine then_normal ?_ | (refine g_move ?_; refine st_move rfl ?_) | (refine g_assign ?_; refine st_assign rfl ?_))
        refine st_val rfl (r_sliceLo (S.rdRow (D := fInt .i64) (i := 0) rfl) rfl rfl (by omega) (by omega)) ?_
        refine st_valE rfl (r_appendRd (i := 1) (D := fInt .i64) S rfl ((S.rdRow (D := fInt .i64) (i := 0) rfl).cut (lo := q.toNat) (hi := out.length) (by omega) (by omega)) rfl rfl rfl (by decide) fI_one (by simp; omega) (by simp; omega)) ?_
        rintro vn3 w ⟨-, S'⟩; replace S := S'; clear S'
        repeat' (first | refine WP_region ?_ | refine wl_nil ?_ | refine then_normal ?_ | refine inB_normal ?_ | (refine g_move ?_; refine st_move rfl ?_) | (refine g_assign ?_; refine st_assign rfl ?_) | (refine g_b_add ?_; (refine st_val rfl (r_addN rfl rfl ?_ ?_) ?_; (first | omega | (simp <;> omega)); (first | omega | (simp <;> omega)))))
        have eX : [] ++ (out.take q.toNat).drop 0 ++ [p] ++ (out.take out.length).drop q.toNat = out.take k ++ (i : Int) :: out.drop k := by
          rw [hp, hq, Int.toNat_natCast, List.take_length]; simp
        replace S : St w0 w [rowOb (fInt .i64) 3 vn3 (out.take k ++ (i : Int) :: out.drop k)] := by rw [← eX]; exact S.keep [false, true]
        refine ⟨⟨_, ?_, i + 1, _, vn3, _, ⟨rfl, rfl, rfl, trivial⟩, S, by omega, by omega, hP, hW, rfl⟩⟩
        omega
  · repeat' (first | refine WP_seq ?_ | refine WP_region ?_ | refine wl_nil ?_ | refine then_normal ?_ | refine then_exit ?_ | refine inB_here ?_ | refine WP_ret ?_ | refine WP_exit ?_ | (refine g_move ?_; refine st_move rfl ?_) | (refine g_assign ?_; refine st_assign rfl ?_) | (refine g_b_lss ?_; refine st_val rfl (r_lss rfl rfl) ?_) | (refine g_c_len ?_; refine st_val rfl (r_lenSlice rfl) ?_) | (refine WP_cond rfl (fun h => ?_) (fun h => ?_) <;> (fail_if_success (have hh : true = true := h)) <;> (fail_if_success (have hh : false = false := h)) <;> (try simp only [decide_eq_true_eq, decide_eq_false_iff_not, Bool.not_eq_true', Bool.not_eq_false', Int.not_lt, Int.not_le] at h) <;> (try (exfalso; omega))))
    have e : i = sp.length := by omega
    subst e
    have hO : Ord sp out := ⟨hpm, hpw⟩
    rw [← hO.eq]
    exact end1 rfl rfl ⟨_, rfl, S.below, S.row (i := 0) rfl⟩
end Go.Proofs.YteplelijhkmbkaaDoor
