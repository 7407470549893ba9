import Derived.Test.YteplelijhkmbkaaDoorLE
namespace Go.Proofs.YteplelijhkmbkaaDoor
open Go Go.Gx Go.RowKit
set_option linter.unusedVariables false
set_option linter.unusedSimpArgs false

theorem nth_get_el {sp : List GSpot} {i : Int} (h0 : 0 ≤ i) (hi : i < sp.length) : nth sp i = sp[i.toNat]'(by omega) := by
  have h := nth_get (l := sp) (i := i) h0 hi
  rw [List.getElem?_eq_getElem (by omega)] at h
  exact (Option.some.inj h).symm
theorem swap_perm {o : List GSpot} {i n : Int} (h0 : 0 ≤ i) (hi : i < o.length) (g0 : 0 ≤ n) (hn : n < o.length) : ((o.set i.toNat (nth o n)).set n.toNat (nth o i)).Perm o := by
  rw [nth_get_el h0 hi, nth_get_el g0 hn]
  exact List.set_set_perm (by omega) (by omega)
theorem validP_perm {sp sp' : List GSpot} (h : sp'.Perm sp) (hv : validP sp = true) : validP sp' = true := by
  unfold validP
  rw [decide_eq_true (by have := validP_len hv; have := h.length_eq; omega), Bool.true_and, List.all_eq_true]
  exact fun x hx => List.all_eq_true.1 (Bool.and_eq_true_iff.1 hv).2 x (h.mem_iff.1 hx)
set_option maxHeartbeats 2000000 in
theorem lawOrder_spec {vx vy : Value} {xs : List GArr8Int} {ys : List GArr2Int} {turn one two : Int} {w0 : World} (hG : TblAt w0) (hr1 : Rd fGArr8Int.ty w0 vx xs) (hx : ∀ x ∈ xs, okA8 x) (hxl : xs.length ≤ maxLen) (hr2 : Rd fGArr2Int.ty w0 vy ys) (hy : ∀ y ∈ ys, okA2 y) (hyl : ys.length ≤ maxLen) (ht1 : inI turn) (ht2 : inI one) (ht3 : inI two) :
    CallsV Tryd.prog 6 #[vx, vy, .int .i64 turn, .int .i64 one, .int .i64 two] w0 (.bool true) := by
  have S := St.start w0
  refine CallsV.mk ?_
  refine calls_enter Tryd.func6 rfl (by intro _ h; first | exact nomatch h.1 | (obtain ⟨_, h, _⟩ := h; exact nomatch h)) Tryd.ntmps6 rfl ?_
  repeat' (first | refine WP_seq ?_ | refine WP_region ?_ | refine wl_nil ?_ | refine then_normal ?_ | refine WP_skip ?_ | refine WP_condF rfl ?_ | (refine g_move ?_; refine st_move rfl ?_) | (refine g_assign ?_; refine st_assign rfl ?_) | (refine g_un ?_; refine st_val rfl (r_not rfl) ?_) | (refine g_callV ?_; (refine st_callV rfl (r_call0 rfl) (sane_spec (hG.mono S.below)) ?_; intro w hb; replace S := S.grow hb; clear hb)))
  refine st_callR rfl (r_call1 rfl rfl) (made_run (hr1.mono S.below) hx hxl) ?_; rintro vL w hb hrow; replace S := S.new hb hrow; clear hb hrow
  obtain ⟨l, hl⟩ : ∃ l, madeL xs = l := ⟨_, rfl⟩
  have hvl : validC l = true := by rw [← hl]; exact madeL_ok xs
  have hll : l.length ≤ 8 := by rw [← hl]; exact madeL_len xs
  rw [hl] at S
  obtain ⟨AL, cL, hz⟩ := (S.rdRow (D := fGContract) (i := 0) rfl).len; subst hz
  repeat' (first | refine WP_seq ?_ | refine WP_region ?_ | refine wl_nil ?_ | refine then_normal ?_ | (refine g_move ?_; refine st_move rfl ?_) | (refine g_assign ?_; refine st_assign rfl ?_))
  refine st_callR rfl (r_call2 rfl rfl rfl) (spots_run (S.rdRow (D := fGContract) (i := 0) rfl) (hr2.mono S.below) hy (by omega) hyl) ?_; rintro vP w hb hrow; replace S := S.new hb hrow; clear hb hrow
  obtain ⟨sp, hsp⟩ : ∃ sp, spotsL l ys = sp := ⟨_, rfl⟩
  have hvp : validP sp = true := by rw [← hsp]; exact spotsL_ok hvl ys
  have hpl : sp.length ≤ 24 := by rw [← hsp]; exact spotsL_len l ys
  rw [hsp] at S
  obtain ⟨AP, cP, hz⟩ := (S.rdRow (D := fGSpot) (i := 1) rfl).len; subst hz
  have hok : okI l sp = true := by unfold okI; rw [hvl, hvp]; rfl
  replace S : St w0 w [rowOb fGContract 29 (.slice AL l.length cL) l, rowOb fGSpot 31 (.slice AP sp.length cP) sp] := S

  by_cases hl0 : sp.length = 0
  · repeat' (first | refine WP_seq ?_ | refine WP_region ?_ | refine wl_nil ?_ | refine then_normal ?_ | refine then_ret ?_ | refine WP_ret ?_ | (refine g_move ?_; refine st_move rfl ?_) | (refine g_assign ?_; refine st_assign rfl ?_) | (refine g_b_eql ?_; refine st_val rfl (r_eql rfl rfl) ?_) | (refine g_c_len ?_; refine st_val rfl (r_lenSlice rfl) ?_) | (refine WP_cond rfl (fun h => ?_) (fun h => ?_) <;> (fail_if_success (have hh : true = true := h)) <;> (fail_if_success (have hh : false = false := h)) <;> (try simp only [decide_eq_true_eq, decide_eq_false_iff_not, Bool.not_eq_true', Bool.not_eq_false', Int.not_lt, Int.not_le] at h) <;> (try (exfalso; omega))))
    all_goals exact end1 rfl rfl ⟨rfl, S.below⟩
  have rk := pickI_range (c := turn) (n := (sp.length : Int)) (by omega)
  have ri := pickI_range (c := one) (n := (sp.length : Int)) (by omega)
  have rn := pickI_range (c := two) (n := (sp.length : Int)) (by omega)
  obtain ⟨k, hk⟩ : ∃ k, pickI turn (sp.length : Int) = k := ⟨_, rfl⟩
  obtain ⟨i, hi⟩ : ∃ i, pickI one (sp.length : Int) = i := ⟨_, rfl⟩
  obtain ⟨n, hn⟩ : ∃ n, pickI two (sp.length : Int) = n := ⟨_, rfl⟩
  rw [hk] at rk
  rw [hi] at ri
  rw [hn] at rn
  repeat' (first | refine WP_seq ?_ | refine WP_region ?_ | refine wl_nil ?_ | refine then_normal ?_ | refine WP_skip ?_ | (refine WP_drawJ (fun w' => St w0 w' [rowOb fGContract 29 (.slice AL l.length cL) l, rowOb fGSpot 31 (.slice AP sp.length cP) sp]) [1,2,3,5,6,7] [0,4,8] [9] (by kernel_rfl) (by decide) (by decide +kernel) (fun w' hb => (S.grow hb).keep [true, true]) ?_; intro w hb; replace S := S.grow hb; clear hb) | refine jq_nil ?_ | (refine g_move ?_; refine st_move rfl ?_) | (refine g_assign ?_; refine st_assign rfl ?_) | (refine g_b_eql ?_; refine st_val rfl (r_eql rfl rfl) ?_) | (refine g_c_len ?_; refine st_val rfl (r_lenSlice rfl) ?_) | (refine g_callV ?_; (refine st_callV rfl (r_call2 rfl rfl rfl) (pick_is hk ht1.1 ht1.2 (by omega)) ?_; intro w hb; replace S := S.grow hb; clear hb)) | (refine gj_move ?_; refine jq_val rfl (fun w' hJ => ⟨rfl⟩) ?_) | (refine gj_assign ?_; refine jq_val rfl (fun w' hJ => ⟨rfl⟩) ?_) | (refine jq_val rfl (fun w' hJ => r_sliceLo (hJ.rdRow (D := fGSpot) (i := 1) rfl) rfl rfl (by omega) (by omega)) ?_) | (refine jq_val rfl (fun w' hJ => r_sliceHi (hJ.rdRow (D := fGSpot) (i := 1) rfl) rfl rfl (by omega) (by omega)) ?_) | (refine WP_cond rfl (fun h => ?_) (fun h => ?_) <;> (fail_if_success (have hh : true = true := h)) <;> (fail_if_success (have hh : false = false := h)) <;> (try simp only [decide_eq_true_eq, decide_eq_false_iff_not, Bool.not_eq_true', Bool.not_eq_false', Int.not_lt, Int.not_le] at h) <;> (try (exfalso; omega))))
  refine wj_valE rfl (r_lit0 (D := fGSpot) S) ?_
  rintro vn w ⟨-, S'⟩; refine ⟨S'.keep [true, true], ?_⟩; replace S := S'; clear S'
  refine wj_valE rfl (r_appendRd (i := 2) (l := []) (D := fGSpot) S rfl ((S.rdRow (D := fGSpot) (i := 1) rfl).cut (lo := k.toNat) (hi := sp.length) (by omega) (by omega)) rfl rfl rfl (by decide) one_sp (by simp; omega) (by simp; omega)) ?_
  rintro vn1 w ⟨-, S'⟩; refine ⟨S'.keep [true, true], ?_⟩; replace S := S'; clear S'
  refine wj_valE rfl (r_appendRd (i := 2) (l := [] ++ (sp.take sp.length).drop k.toNat) (D := fGSpot) S rfl ((S.rdRow (D := fGSpot) (i := 1) rfl).cut (lo := 0) (hi := k.toNat) (by omega) (by omega)) rfl rfl rfl (by decide) one_sp (by simp; omega) (by simp; omega)) ?_
  rintro vo w ⟨-, S'⟩; refine ⟨S'.keep [true, true], ?_⟩; replace S := S'; clear S'
  refine wj_nil ?_
  obtain ⟨o, ho⟩ : ∃ o, [] ++ (sp.take sp.length).drop k.toNat ++ (sp.take k.toNat).drop 0 = o := ⟨_, rfl⟩
  have hop : o.Perm sp := by
    rw [← ho, List.nil_append, List.take_length, List.drop_zero]
    refine List.perm_append_comm.trans ?_
    rw [List.take_append_drop]
  have hol := hop.length_eq
  replace S : St w0 w [rowOb fGContract 29 (.slice AL l.length cL) l, rowOb fGSpot 31 (.slice AP sp.length cP) sp, rowOb fGSpot 31 vo o] := by rw [← ho]; exact S
  obtain ⟨AO, cO, hz⟩ := (S.rdRow (D := fGSpot) (i := 2) rfl).len; subst hz
  repeat' (first | refine WP_seq ?_ | refine WP_region ?_ | refine wl_nil ?_ | refine then_normal ?_ | (refine g_move ?_; refine st_move rfl ?_) | (refine g_assign ?_; refine st_assign rfl ?_) | (refine g_c_len ?_; refine st_val rfl (r_lenSlice rfl) ?_) | (refine g_indexAddr ?_; (refine st_val rfl (r_indexAddr (S.rdRow (D := fGSpot) (i := 2) rfl) rfl rfl ?_ ?_) ?_; (first | omega | (simp <;> omega)); (first | omega | (simp <;> omega)))) | (refine g_load ?_; (refine st_val rfl (r_loadElem (S.rdRow (D := fGSpot) (i := 2) rfl) rfl ?_ ?_) ?_; (first | omega | (simp <;> omega)); (first | omega | (simp <;> omega)))) | (refine g_callV ?_; first | (refine st_callV rfl (r_call2 rfl rfl rfl) (pick_is hi ht2.1 ht2.2 (by omega)) ?_; intro w hb; replace S := S.grow hb; clear hb) | (refine st_callV rfl (r_call2 rfl rfl rfl) (pick_is hn ht3.1 ht3.2 (by omega)) ?_; intro w hb; replace S := S.grow hb; clear hb)) | (refine g_alloc ?_; refine st_valE rfl (r_alloc S) ?_; rintro _ w ⟨b, rfl, -, S'⟩; replace S := S'; clear S') | (refine g_store ?_; first | (refine st_skipE rfl (r_storeVar (i := 0) S rfl rfl rfl rfl (of_decide_eq_true rfl) (of_decide_eq_true rfl)) ?_; intro w S'; replace S := S'; clear S') | (refine st_skipE rfl (r_storeVar (i := 1) S rfl rfl rfl rfl (of_decide_eq_true rfl) (of_decide_eq_true rfl)) ?_; intro w S'; replace S := S'; clear S') | (refine st_skipE rfl (r_storeVar (i := 2) S rfl rfl rfl rfl (of_decide_eq_true rfl) (of_decide_eq_true rfl)) ?_; intro w S'; replace S := S'; clear S') | (refine st_skipE rfl (r_storeVar (i := 3) S rfl rfl rfl rfl (of_decide_eq_true rfl) (of_decide_eq_true rfl)) ?_; intro w S'; replace S := S'; clear S')))
  refine st_skipE rfl (r_storeElem (i := 2) (D := fGSpot) (x := nth o n) (j := i) S rfl rfl rfl rfl (one_sp _) (by omega) (by omega)) ?_
  intro w S'; replace S := S'; clear S'
  repeat' (first | refine WP_seq ?_ | refine WP_region ?_ | refine wl_nil ?_ | refine then_normal ?_ | (refine g_move ?_; refine st_move rfl ?_) | (refine g_indexAddr ?_; (refine st_val rfl (r_indexAddr (S.rdRow (D := fGSpot) (i := 2) rfl) rfl rfl ?_ ?_) ?_; (first | omega | (simp <;> omega)); (first | omega | (simp <;> omega)))) | (refine g_load ?_; refine st_val rfl (r_loadVarA (i := 3) S rfl rfl rfl rfl) ?_))
  refine st_skipE rfl (r_storeElem (i := 2) (D := fGSpot) (x := nth o i) (j := n) S rfl rfl rfl rfl (one_sp _) (by omega) (by rw [List.length_set]; omega)) ?_
  intro w S'
  obtain ⟨o2, ho2⟩ : ∃ o2, (o.set i.toNat (nth o n)).set n.toNat (nth o i) = o2 := ⟨_, rfl⟩
  have hp2 : o2.Perm sp := by rw [← ho2]; exact (swap_perm (by omega) (by omega) (by omega) (by omega)).trans hop
  have h2l := hp2.length_eq
  replace S : St w0 w [rowOb fGContract 29 (.slice AL l.length cL) l, rowOb fGSpot 31 (.slice AP sp.length cP) sp, rowOb fGSpot 31 (.slice AO o.length cO) o2, .var b 31 (nth o i).enc] := by rw [← ho2]; exact S'
  clear S'
  have hok2 : okI l o2 = true := okI_of hvl (validP_perm hp2 hvp)
  have hK : spAt o2 (cntI l o2) = spAt sp (cntI l sp) := cntS_perm hp2
  repeat' (first | refine WP_seq ?_ | refine WP_region ?_ | refine wl_nil ?_ | refine then_normal ?_ | (refine g_move ?_; refine st_move rfl ?_))
  refine st_callR rfl (r_call2 rfl rfl rfl) (counted_is (counted_t hok) (S.rdRow (D := fGContract) (i := 0) rfl) (S.rdRow (D := fGSpot) (i := 1) rfl) (by omega) (by omega) (hG.mono S.below)) ?_; rintro _ w hb ⟨va, rfl, hrow⟩; replace S := S.new hb hrow; clear hb hrow
  repeat' (first | refine WP_seq ?_ | refine WP_region ?_ | refine wl_nil ?_ | refine then_normal ?_ | (refine g_move ?_; refine st_move rfl ?_) | (refine g_assign ?_; refine st_assign rfl ?_) | (refine g_extract ?_; refine st_val rfl (r_extract rfl rfl) ?_))
  refine st_callR rfl (r_call2 rfl rfl rfl) (counted_is (counted_t hok2) (S.rdRow (D := fGContract) (i := 0) rfl) (S.rdRow (D := fGSpot) (i := 2) rfl) (by omega) (by omega) (hG.mono S.below)) ?_; rintro _ w hb ⟨vb, rfl, hrow⟩; replace S := S.new hb hrow; clear hb hrow
  have hcl := cntI_len l sp
  have hcl2 := cntI_len l o2
  repeat' (first | refine WP_seq ?_ | refine WP_region ?_ | refine wl_nil ?_ | refine then_normal ?_ | (refine g_move ?_; refine st_move rfl ?_) | (refine g_assign ?_; refine st_assign rfl ?_) | (refine g_extract ?_; refine st_val rfl (r_extract rfl rfl) ?_) | (refine g_load ?_; refine st_val rfl (r_loadVarA (i := 3) S rfl rfl rfl rfl) ?_))
  refine st_callR rfl (r_call3 rfl rfl rfl rfl) (keptR_is (x := nth o i) rfl rfl (S.rdRow (D := fGSpot) (i := 1) rfl) (S.rdRow (D := fInt .i64) (i := 4) rfl) (by omega) (by show (cntI l sp).length ≤ _; omega) (fun y hy => cntI_mem hy)) ?_; rintro _ w hb ⟨vk, rfl, hrow⟩; replace S := S.new hb hrow; clear hb hrow
  repeat' (first | refine WP_seq ?_ | refine WP_region ?_ | refine wl_nil ?_ | refine then_normal ?_ | (refine g_move ?_; refine st_move rfl ?_) | (refine g_assign ?_; refine st_assign rfl ?_) | (refine g_extract ?_; refine st_val rfl (r_extract rfl rfl) ?_) | (refine g_load ?_; refine st_val rfl (r_loadVarA (i := 3) S rfl rfl rfl rfl) ?_))
  refine st_callR rfl (r_call3 rfl rfl rfl rfl) (keptR_is (x := nth o i) hK rfl (S.rdRow (D := fGSpot) (i := 2) rfl) (S.rdRow (D := fInt .i64) (i := 5) rfl) (by omega) (by show (cntI l o2).length ≤ _; omega) (fun y hy => cntI_mem hy)) ?_; rintro _ w hb ⟨vm, rfl, hrow⟩; replace S := S.new hb hrow; clear hb hrow
  have hKl : (spAt sp (cntI l sp)).length ≤ 24 := by rw [spAt_len]; omega
  have kn := @keptN_le (spAt sp (cntI l sp)) (nth o i)
  repeat' (first | refine WP_seq ?_ | refine WP_region ?_ | refine wl_nil ?_ | refine then_normal ?_ | refine WP_ret ?_ | (refine g_move ?_; refine st_move rfl ?_) | (refine g_assign ?_; refine st_assign rfl ?_) | (refine g_pick ?_; refine st_pickT rfl rfl ?_) | (refine g_b_eql ?_; refine st_val rfl (r_eql rfl rfl) ?_) | (refine g_b_geq ?_; refine st_val rfl (r_geq rfl rfl) ?_) | (refine g_extract ?_; refine st_val rfl (r_extract rfl rfl) ?_) | (refine g_callV ?_; (refine st_callV rfl (r_call2 rfl rfl rfl) (same_is (b := true) (l := spAt sp (cntI l sp)) (m := spAt sp (cntI l sp)) (decide_eq_true rfl) (S.rdRow (D := fGSpot) (i := 6) rfl) (S.rdRow (D := fGSpot) (i := 7) rfl) (Nat.le_trans hKl (by decide)) (Nat.le_trans hKl (by decide))) ?_; intro w hb; replace S := S.grow hb; clear hb)) | (refine wl_split rfl rfl (fun h => ?_) (fun h => ?_) <;> (fail_if_success (have hh : true = true := h)) <;> (fail_if_success (have hh : false = false := h)) <;> (try simp only [decide_eq_true_eq, decide_eq_false_iff_not, Bool.not_eq_true', Bool.not_eq_false', Int.not_lt, Int.not_le] at h) <;> (try (exfalso; omega)) <;> (try (exfalso; first | exact absurd rfl h | exact absurd trivial h | omega; done))))
  all_goals (refine end1 rfl rfl ⟨rb ?_, S.below⟩; first | rfl | (simp; done))
end Go.Proofs.YteplelijhkmbkaaDoor
