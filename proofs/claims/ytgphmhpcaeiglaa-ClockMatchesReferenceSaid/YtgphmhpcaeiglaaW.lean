import Derived.Test.YtgphmhpcaeiglaaV
namespace Go.Proofs.Ytgphmhpcaeiglaa
open Go Go.Gx Go.RowKit
set_option linter.unusedVariables false
set_option linter.unusedSimpArgs false

structure GClk where
  d : Int
  a : Option Addr
  n : Nat
  c : Nat
  deriving Inhabited
def fClk : Flat GClk := ⟨2, fun x => [.int .i64 x.d, .slice x.a x.n x.c], fun _ => rfl⟩
def vClk (x : GClk) : Value := .agg #[.int .i64 x.d, .slice x.a x.n x.c]
theorem few_spec {d : Int} {A A' : Option Addr} {c c' : Nat} {l : List GReading} {w0 : World} (hr : Rd fGReading.ty w0 (.slice A l.length c) l) (hl : l.length ≤ maxLen) (hv : sliceV (.slice A l.length c) 0 (min (l.length : Int) 13).toNat 3 = .slice A' (l.take 13).length c') :
    CallsV Try.prog 14 #[.agg #[.int .i64 d, .slice A l.length c]] w0 (.agg #[.int .i64 d, .slice A' (l.take 13).length c']) := by
  have S := St.start w0
  simp only [maxLen] at hl
  refine CallsV.mk ?_
  refine calls_enter Try.func14 rfl Try.ntmps14 rfl ?_
  repeat' (first | refine WP_seq ?_ | refine WP_region ?_ | refine wl_nil ?_ | refine then_normal ?_ | refine WP_drawTail 10 (by kernel_rfl) (by decide +kernel) ?_ | (refine gq_c_min ?_; refine q_val rfl (fun w' hb => r_min2 rfl rfl) ?_) | (refine gq_c_len ?_; refine q_val rfl (fun w' hb => r_lenSlice rfl) ?_) | (refine gq_fieldAddr ?_; refine q_val rfl (fun w' hb => r_fieldAddrL rfl) ?_) | (refine gq_load ?_; refine q_val rfl (fun w' hb => r_loadVar (i := 0) (S.grow hb) rfl rfl rfl) ?_) | (refine g_box ?_; refine st_valE rfl (r_box S rfl) ?_; rintro _ w ⟨b, rfl, -, S'⟩; replace S := S'; clear S') | (refine g_alloc ?_; refine st_valE rfl (r_alloc S) ?_; rintro _ w ⟨b, rfl, -, S'⟩; replace S := S'; clear S'))
  refine gq_slice ?_
  refine q_val rfl (fun w' hb => r_sliceHi (hr.mono (S.grow hb).below) rfl rfl (by omega) (by omega)) ?_
  repeat' (first | refine wl_nil ?_ | refine then_normal ?_ | refine WP_ret ?_ | (refine ql_nil ?_; intro w hb; replace S := S.grow hb; clear hb) | (refine gq_build ?_; refine q_val rfl (fun w' hb => bd24_0_1 rfl rfl) ?_) | (refine g_store ?_; first | (refine st_skipE rfl (r_storeVar (i := 0) S rfl rfl rfl rfl (of_decide_eq_true rfl) (of_decide_eq_true rfl)) ?_; intro w S'; replace S := S'; clear S') | (refine st_skipE rfl (r_storeVar (i := 1) S rfl rfl rfl rfl (of_decide_eq_true rfl) (of_decide_eq_true rfl)) ?_; intro w S'; replace S := S'; clear S')))
  refine endCellA rfl rfl S (i := 1) rfl rfl ⟨?_, S.below⟩
  show Ending.returned (Value.agg #[.int .i64 d, sliceV (.slice A l.length c) 0 (min (l.length : Int) 13).toNat 3]) = _
  rw [hv]

theorem few_cut {v : Value} {l : List GReading} {w0 : World} (hr : Rd fGReading.ty w0 v l) : ∃ A' c', sliceV v 0 (min (l.length : Int) 13).toNat 3 = .slice A' (l.take 13).length c' ∧ Rd fGReading.ty w0 (.slice A' (l.take 13).length c') (l.take 13) := by
  have hcut := hr.cut (lo := 0) (hi := (min (l.length : Int) 13).toNat) (by omega) (by omega)
  rw [List.drop_zero] at hcut
  have ht : l.take (min (l.length : Int) 13).toNat = l.take 13 := by
    by_cases h : l.length ≤ 13
    · rw [List.take_of_length_le (by omega), List.take_of_length_le (by omega)]
    · rw [show (min (l.length : Int) 13).toNat = 13 by omega]
  rw [ht] at hcut
  obtain ⟨A', c', hv⟩ := hcut.len
  rw [hv] at hcut
  exact ⟨A', c', hv, hcut⟩

set_option maxRecDepth 20000 in
set_option maxHeartbeats 4000000 in
theorem clockMatches_spec {drw dr st local_ t : Int} {vw vr va vs : Value} {lw : List GReading} {rates : List Int} {ats : List GArr3Int} {sp : List GSpell} {w0 : World} (iw : inI drw) (hw : Rd fGReading.ty w0 vw lw) (hwl : lw.length ≤ maxLen)
    (i0 : inI dr) (i1 : inI st) (hr : Rd (fInt .i64).ty w0 vr rates) (hrok : ∀ x ∈ rates, inI x) (hrl : rates.length ≤ maxLen)
    (ha : Rd fGArr3Int.ty w0 va ats) (haok : ∀ x ∈ ats, okQ3 x) (hal : ats.length ≤ maxLen) (i5 : inI local_) (i6 : inI t) (hsp : Rd fGSpell.ty w0 vs sp) (hspl : sp.length ≤ maxLen) :
    CallsV Try.prog 3 #[.agg [.int .i64 drw, vw].toArray, .int .i64 dr, .int .i64 st, vr, va, .int .i64 local_, .int .i64 t, vs] w0 (.bool true) := by
  have S := St.start w0
  obtain ⟨Aw, cw, rfl⟩ := hw.len
  obtain ⟨As, cs, rfl⟩ := hsp.len
  obtain ⟨A8, c8, hv8, hR8⟩ := few_cut hw
  obtain ⟨l8, hl8⟩ : ∃ l8, l8 = lw.take 13 := ⟨_, rfl⟩
  rw [← hl8] at hv8 hR8
  have hl8n : l8.length ≤ maxLen := by rw [hl8, List.length_take]; simp only [maxLen]; omega
  have hspl' := hspl
  simp only [maxLen] at hspl'
  obtain ⟨pl, hpl⟩ : ∃ z, pickI local_ 5000 = z := ⟨_, rfl⟩
  obtain ⟨pt, hpt⟩ : ∃ z, pickI t 5000 = z := ⟨_, rfl⟩
  have rpl := pickI_range (c := local_) (n := 5000) (by omega)
  have rpt := pickI_range (c := t) (n := 5000) (by omega)
  rw [hpl] at rpl
  rw [hpt] at rpt
  have ipl : inI pl := by unfold inI; omega
  have ipt : inI pt := by unfold inI; omega
  obtain ⟨d, hd⟩ : ∃ z, pickI dr 101 = z := ⟨_, rfl⟩
  have rd := pickI_range (c := dr) (n := 101) (by omega)
  rw [hd] at rd
  have id : inI d := by unfold inI; omega
  have hmade := fun w (hb : Below w0.heap.size w0 w) => made_spec (w0 := w) i0 i1 (hr.mono hb) hrl hrok (ha.mono hb) hal haok
  rw [hd] at hmade
  have hcut := hsp.cut (lo := 0) (hi := (min (sp.length : Int) 20).toNat) (by omega) (by omega)
  rw [List.drop_zero] at hcut
  obtain ⟨A2, c2, hceq⟩ := hcut.len
  rw [hceq] at hcut
  obtain ⟨L0, hL0⟩ : ∃ L0, L0 = sp.take (min (sp.length : Int) 20).toNat := ⟨_, rfl⟩
  rw [← hL0] at hcut hceq
  have hl0 : L0.length ≤ 100000 := by rw [hL0, List.length_take]; omega
  have i5' := i5
  have i6' := i6
  unfold inI at i5' i6'
  refine CallsV.mk ?_
  refine calls_enter Try.func3 rfl Try.ntmps3 rfl ?_
  repeat' (first | refine WP_seq ?_ | refine WP_region ?_ | refine wl_nil ?_ | refine then_normal ?_ | refine WP_skip ?_ | refine WP_condF rfl ?_ | (refine g_move ?_; refine st_move rfl ?_) | (refine g_assign ?_; refine st_assign rfl ?_) | (refine g_un ?_; refine st_val rfl (r_not rfl) ?_) | (refine g_extract ?_; refine st_val rfl (r_extract rfl rfl) ?_) | (refine g_c_min ?_; refine st_val rfl (r_min2 rfl rfl) ?_) | (refine g_c_len ?_; refine st_val rfl (r_lenSlice rfl) ?_) | (refine g_callV ?_; first | (refine st_callV rfl (r_call0 rfl) (sane_spec) ?_; intro w hb; replace S := S.grow hb; clear hb) | (refine st_callV rfl (r_call2 rfl rfl rfl) (spread_spec) ?_; intro w hb; replace S := S.grow hb; clear hb) | (refine st_callV rfl (r_call2 rfl rfl rfl) (spreadR_spec) ?_; intro w hb; replace S := S.grow hb; clear hb)) | (refine g_box ?_; refine st_valE rfl (r_box S rfl) ?_; rintro _ w ⟨b, rfl, -, S'⟩; replace S := S'; clear S'))
  refine st_val (v := .slice A2 L0.length c2) rfl (by rw [← hceq]; exact r_sliceHi (hsp.mono S.below) rfl rfl (by omega) (by omega)) ?_
  refine st_callR rfl (r_call1 rfl rfl) (agree_spec (hcut.mono S.below) hl0) ?_
  rintro _ w hb ⟨f, t', k, rfl, hok⟩; replace S := S.grow hb; clear hb
  repeat' (first | refine WP_seq ?_ | refine WP_region ?_ | refine wl_nil ?_ | refine then_normal ?_ | (refine g_move ?_; refine st_move rfl ?_) | (refine g_assign ?_; refine st_assign rfl ?_) | (refine g_extract ?_; refine st_val rfl (r_extract rfl rfl) ?_) | (refine g_c_min ?_; refine st_val rfl (r_min2 rfl rfl) ?_) | (refine g_c_len ?_; refine st_val rfl (r_lenSlice rfl) ?_) | (refine g_alloc ?_; refine st_valE rfl (r_alloc S) ?_; rintro _ w ⟨b, rfl, -, S'⟩; replace S := S'; clear S') | (refine g_store ?_; first | (refine st_skipE rfl (r_storeVar (i := 0) S rfl rfl rfl rfl (of_decide_eq_true rfl) (of_decide_eq_true rfl)) ?_; intro w S'; replace S := S'; clear S') | (refine st_skipE rfl (r_storeVar (i := 1) S rfl rfl rfl rfl (of_decide_eq_true rfl) (of_decide_eq_true rfl)) ?_; intro w S'; replace S := S'; clear S') | (refine st_skipE rfl (r_storeVar (i := 2) S rfl rfl rfl rfl (of_decide_eq_true rfl) (of_decide_eq_true rfl)) ?_; intro w S'; replace S := S'; clear S')))
  refine st_val (v := .slice A2 L0.length c2) rfl (by rw [← hceq]; exact r_sliceHi (hsp.mono S.below) rfl rfl (by omega) (by omega)) ?_
  refine st_callR rfl (r_call1 rfl rfl) (agreeR_spec (hcut.mono S.below) hl0) ?_
  rintro _ w hb ⟨f2, t2, k2, rfl, hok2⟩; replace S := S.grow hb; clear hb
  obtain ⟨rfl, rfl, rfl⟩ := agree_unique hok2 hok
  repeat' (first | refine WP_seq ?_ | refine WP_region ?_ | refine wl_nil ?_ | refine then_normal ?_ | refine WP_skip ?_ | (refine g_move ?_; refine st_move rfl ?_) | (refine g_assign ?_; refine st_assign rfl ?_) | (refine g_pick ?_; refine st_pickF rfl rfl ?_) | (refine g_b_neq ?_; first | refine st_val rfl (r_neq rfl rfl) ?_ | refine st_val rfl (neq32 rfl rfl) ?_) | (refine g_extract ?_; refine st_val rfl (r_extract rfl rfl) ?_) | (refine g_load ?_; first | refine st_val rfl (r_loadVarA (i := 0) S rfl rfl rfl rfl) ?_ | refine st_val rfl (r_loadVarA (i := 1) S rfl rfl rfl rfl) ?_ | refine st_val rfl (r_loadVarA (i := 2) S rfl rfl rfl rfl) ?_) | (refine g_alloc ?_; refine st_valE rfl (r_alloc S) ?_; rintro _ w ⟨b, rfl, -, S'⟩; replace S := S'; clear S') | (refine g_store ?_; first | (refine st_skipE rfl (r_storeVar (i := 0) S rfl rfl rfl rfl (of_decide_eq_true rfl) (of_decide_eq_true rfl)) ?_; intro w S'; replace S := S'; clear S') | (refine st_skipE rfl (r_storeVar (i := 1) S rfl rfl rfl rfl (of_decide_eq_true rfl) (of_decide_eq_true rfl)) ?_; intro w S'; replace S := S'; clear S') | (refine st_skipE rfl (r_storeVar (i := 2) S rfl rfl rfl rfl (of_decide_eq_true rfl) (of_decide_eq_true rfl)) ?_; intro w S'; replace S := S'; clear S') | (refine st_skipE rfl (r_storeVar (i := 3) S rfl rfl rfl rfl (of_decide_eq_true rfl) (of_decide_eq_true rfl)) ?_; intro w S'; replace S := S'; clear S')) | (refine wl_split rfl rfl (fun h => ?_) (fun h => ?_) <;> (fail_if_success (have hh : true = true := h)) <;> (try simp only [decide_eq_true_eq, decide_eq_false_iff_not, Bool.not_eq_true', Bool.not_eq_false', Int.not_lt, Int.not_le] at h) <;> (try (exfalso; omega)) <;> (try (exfalso; first | exact h rfl | exact h trivial; done))) | (refine WP_cond rfl (fun h => ?_) (fun h => ?_) <;> (fail_if_success (have hh : true = true := h)) <;> (try simp only [decide_eq_true_eq, decide_eq_false_iff_not, Bool.not_eq_true', Bool.not_eq_false', Int.not_lt, Int.not_le] at h) <;> (try (exfalso; omega)) <;> (try (exfalso; first | exact h rfl | exact h trivial; done))))
  have hf8 := fun w (h : Rd fGReading.ty w (.slice Aw lw.length cw) lw) => few_spec (d := drw) (A' := A8) (c' := c8) h hwl (by rw [← hl8]; exact hv8)
  rw [← hl8] at hf8
  repeat' (first | (refine g_move ?_; refine st_move rfl ?_) | (refine g_callV ?_; (refine st_callV rfl (r_call1 rfl rfl) (hf8 _ (hw.mono S.below)) ?_; intro w hb; replace S := S.grow hb; clear hb)))
  refine st_callR rfl (r_call4 rfl rfl rfl rfl rfl) (hmade _ S.below) ?_
  rintro _ w hb ⟨v9, l9, rfl, hnr, hsm⟩; replace S := S.new hb hnr; clear hb hnr
  obtain ⟨A9, c9, rfl⟩ := (S.rdRow (D := fGReading) (i := 3) rfl).len
  have hl9n : l9.length ≤ maxLen := by have := (valid_parts hsm.valid).2.2.1; simp only [maxLen]; omega
  refine st_valE rfl (r_litF (D := fClk) [⟨drw, A8, l8.length, c8⟩, ⟨d, A9, l9.length, c9⟩] vClk S rfl rfl (fun _ => rfl) rfl (by decide) (by decide)) ?_
  rintro _ w ⟨bC, rfl, -, -, S'⟩; replace S := S'; clear S'
  replace S := S.keep [false, false, false, true, true]
  obtain ⟨LO, hLO⟩ : ∃ z : List Int, z = [local_, pl] := ⟨_, rfl⟩
  obtain ⟨LT, hLT⟩ : ∃ z : List Int, z = [t, pt] := ⟨_, rfl⟩
  have hLO2 : LO.length = 2 := by rw [hLO]; rfl
  have hLT2 : LT.length = 2 := by rw [hLT]; rfl
  have hLOi : ∀ j : Int, 0 ≤ j → j < 2 → inI (nth LO j) := fun j a b => by obtain rfl | rfl : j = 0 ∨ j = 1 := (by omega); (rw [hLO]; exact i5); (rw [hLO]; exact ipl)
  have hLTi : ∀ j : Int, 0 ≤ j → j < 2 → inI (nth LT j) := fun j a b => by obtain rfl | rfl : j = 0 ∨ j = 1 := (by omega); (rw [hLT]; exact i6); (rw [hLT]; exact ipt)
  repeat' (first | refine WP_seq ?_ | refine WP_region ?_ | refine wl_nil ?_ | refine then_normal ?_ | refine WP_block ?_ | (refine g_assign ?_; refine st_assign rfl ?_))
  refine WP_loop (fun k σ w1 => ∃ i : Int, Has σ [(5, .int .i64 local_), (6, .int .i64 t), (17, .bool true), (26, .slice (some ⟨bC, 0, none⟩) 2 2), (27, .int .i64 i)] ∧ St w0 w1 [rowOb fGReading 48 (.slice A9 l9.length c9) l9, rowOb fClk 24 (.slice (some ⟨bC, 0, none⟩) 2 2) [⟨drw, A8, l8.length, c8⟩, ⟨d, A9, l9.length, c9⟩]] ∧ 0 ≤ i ∧ i ≤ 2 ∧ k = 2 - i.toNat) 2 ⟨0, ⟨rfl, rfl, rfl, rfl, rfl, trivial⟩, S, by omega, by omega, by omega⟩ ?_
  clear S
  rintro k σ w1 ⟨i, hs', S, a0, a1, rfl⟩
  refine WP_has hs' ?_
  obtain rfl | rfl | rfl : i = 0 ∨ i = 1 ∨ i = 2 := by omega
  · repeat' (first | refine WP_seq ?_ | refine WP_region ?_ | refine wl_nil ?_ | refine then_normal ?_ | refine WP_skip ?_ | refine WP_block ?_ | refine WP_condT rfl ?_ | refine WP_draw (by kernel_rfl) (by kernel_rfl) ?_ | (refine g_move ?_; refine st_move rfl ?_) | (refine g_b_lss ?_; refine st_val rfl (r_lss rfl rfl) ?_) | (refine g_indexAddr ?_; (refine st_val rfl (r_indexAddr (S.rdRow (D := fClk) (i := 1) rfl) rfl rfl ?_ ?_) ?_; (first | omega | (simp <;> omega)); (first | omega | (simp <;> omega)))) | (refine g_load ?_; (refine st_val rfl (r_loadElem (S.rdRow (D := fClk) (i := 1) rfl) rfl ?_ ?_) ?_; (first | omega | (simp <;> omega)); (first | omega | (simp <;> omega)))) | (refine gq_load ?_; refine q_val rfl (fun w' hb => r_loadVarA (i := 2) (S.grow hb) rfl rfl rfl rfl) ?_) | (refine g_alloc ?_; refine st_valE rfl (r_alloc S) ?_; rintro _ w ⟨b, rfl, -, S'⟩; replace S := S'; clear S') | (refine g_store ?_; first | (refine st_skipE rfl (r_storeVar (i := 0) S rfl rfl rfl rfl (of_decide_eq_true rfl) (of_decide_eq_true rfl)) ?_; intro w S'; replace S := S'; clear S') | (refine st_skipE rfl (r_storeVar (i := 1) S rfl rfl rfl rfl (of_decide_eq_true rfl) (of_decide_eq_true rfl)) ?_; intro w S'; replace S := S'; clear S') | (refine st_skipE rfl (r_storeVar (i := 2) S rfl rfl rfl rfl (of_decide_eq_true rfl) (of_decide_eq_true rfl)) ?_; intro w S'; replace S := S'; clear S') | (refine st_skipE rfl (r_storeVar (i := 3) S rfl rfl rfl rfl (of_decide_eq_true rfl) (of_decide_eq_true rfl)) ?_; intro w S'; replace S := S'; clear S')))
    obtain ⟨b28, rfl⟩ : ∃ z, z = b := ⟨_, rfl⟩
    repeat' (first | refine WP_seq ?_ | refine WP_region ?_ | refine then_normal ?_ | refine WP_skip ?_ | (refine ql_nil ?_; intro w hb; replace S := S.grow hb; clear hb) | (refine g_move ?_; refine st_move rfl ?_) | (refine gq_b_neq ?_; refine q_val rfl (fun w' hb => r_neqB rfl rfl) ?_) | (refine gq_load ?_; refine q_val rfl (fun w' hb => r_loadVarA (i := 2) (S.grow hb) rfl rfl rfl rfl) ?_) | (refine gq_callV ?_; first | refine q_callV rfl (fun w' hb => r_call1 rfl rfl) (fun w' hb => validC_spec (hR8.mono (S.grow hb).below) hl8n iw) ?_ | refine q_callV rfl (fun w' hb => r_call1 rfl rfl) (fun w' hb => validR_spec (hR8.mono (S.grow hb).below) hl8n iw) ?_) | (refine WP_cond rfl (fun h => ?_) (fun h => ?_) <;> (fail_if_success (have hh : true = true := h)) <;> (try simp only [decide_eq_true_eq, decide_eq_false_iff_not, Bool.not_eq_true', Bool.not_eq_false', Int.not_lt, Int.not_le] at h) <;> (try (exfalso; omega)) <;> (try (exfalso; first | exact h rfl | exact h trivial; done))))
    repeat' ((refine g_callV ?_; (refine st_callV rfl (r_call2 rfl rfl rfl) (pick_is hpl (by omega) (by omega) (by omega)) ?_; intro w hb; replace S := S.grow hb; clear hb)))
    refine st_valE rfl (r_litF (D := fInt .i64) [local_, pl] (Value.int .i64) S rfl rfl (fun _ => rfl) rfl (by decide) (by decide)) ?_
    rintro _ w ⟨bl, rfl, -, -, S'⟩; replace S := S'; clear S'
    repeat' (first | refine WP_seq ?_ | refine WP_region ?_ | refine wl_nil ?_ | refine then_normal ?_ | (refine g_move ?_; refine st_move rfl ?_) | (refine g_assign ?_; refine st_assign rfl ?_) | (refine g_callV ?_; (refine st_callV rfl (r_call2 rfl rfl rfl) (pick_is hpt (by omega) (by omega) (by omega)) ?_; intro w hb; replace S := S.grow hb; clear hb)))
    refine st_valE rfl (r_litF (D := fInt .i64) [t, pt] (Value.int .i64) S rfl rfl (fun _ => rfl) rfl (by decide) (by decide)) ?_
    rintro _ w ⟨bt, rfl, -, -, S'⟩; replace S := S'; clear S'
    repeat' (first | refine WP_seq ?_ | refine WP_region ?_ | refine wl_nil ?_ | refine then_normal ?_ | refine WP_block ?_ | (refine g_assign ?_; refine st_assign rfl ?_))
    refine WP_loop (fun k σ w1 => ∃ j : Int, Has σ [(5, .int .i64 local_), (6, .int .i64 t), (17, .bool true), (26, .slice (some ⟨bC, 0, none⟩) 2 2), (27, .int .i64 0), (28, .pointer (some ⟨b28, 0, none⟩)), (29, .slice (some ⟨bl, 0, none⟩) 2 2), (30, .slice (some ⟨bt, 0, none⟩) 2 2), (31, .int .i64 j)] ∧ St w0 w1 [rowOb fGReading 48 (.slice A9 l9.length c9) l9, rowOb fClk 24 (.slice (some ⟨bC, 0, none⟩) 2 2) [⟨drw, A8, l8.length, c8⟩, ⟨d, A9, l9.length, c9⟩], .var b28 24 [.int .i64 drw, (.slice A8 l8.length c8)], rowOb (fInt .i64) 3 (.slice (some ⟨bl, 0, none⟩) 2 2) LO, rowOb (fInt .i64) 3 (.slice (some ⟨bt, 0, none⟩) 2 2) LT] ∧ 0 ≤ j ∧ j ≤ 2 ∧ k = 2 - j.toNat) 2 ⟨0, ⟨rfl, rfl, rfl, rfl, rfl, rfl, rfl, rfl, rfl, trivial⟩, (by rw [hLO, hLT]; exact S), by omega, by omega, by omega⟩ ?_
    clear S hs'
    rintro k σ w1 ⟨j, hs', S, j0, j1, rfl⟩
    refine WP_has hs' ?_
    by_cases hj : j < 2
    · have il := hLOi j j0 hj
      have itt := hLTi j j0 hj
      repeat' (first | refine WP_seq ?_ | refine WP_region ?_ | refine wl_nil ?_ | refine then_normal ?_ | refine inB_normal ?_ | refine WP_skip ?_ | refine WP_block ?_ | refine WP_draw (by kernel_rfl) (by kernel_rfl) ?_ | (refine ql_nil ?_; intro w hb; replace S := S.grow hb; clear hb) | (refine g_move ?_; refine st_move rfl ?_) | (refine g_assign ?_; refine st_assign rfl ?_) | (refine g_pick ?_; refine st_pickF rfl rfl ?_) | (refine g_b_add ?_; (refine st_val rfl (r_addN rfl rfl ?_ ?_) ?_; (first | omega | (simp <;> omega)); (first | omega | (simp <;> omega)))) | (refine g_b_neq ?_; refine st_val rfl (r_neq rfl rfl) ?_) | (refine g_b_lss ?_; refine st_val rfl (r_lss rfl rfl) ?_) | (refine gq_move ?_; refine q_move rfl ?_) | (refine gq_assign ?_; refine q_assign rfl ?_) | (refine gq_pick ?_; refine q_pickF rfl rfl ?_) | (refine gq_b_neq ?_; refine q_val rfl (fun w' hb => r_neqB rfl rfl) ?_) | (refine gq_extract ?_; refine q_val rfl (fun w' hb => r_extract rfl rfl) ?_) | (refine gq_indexAddr ?_; first | (refine q_val rfl (fun w' hb => r_indexAddr ((S.grow hb).rdRow (D := (fInt .i64)) (i := 3) rfl) rfl rfl ?_ ?_) ?_; (first | omega | (simp <;> omega)); (first | omega | (simp <;> omega))) | (refine q_val rfl (fun w' hb => r_indexAddr ((S.grow hb).rdRow (D := (fInt .i64)) (i := 4) rfl) rfl rfl ?_ ?_) ?_; (first | omega | (simp <;> omega)); (first | omega | (simp <;> omega)))) | (refine gq_load ?_; first | (refine q_val rfl (fun w' hb => r_loadElem1 ((S.grow hb).rdRow (D := (fInt .i64)) (i := 3) rfl) rfl ?_ ?_ rfl) ?_; (first | omega | (simp <;> omega)); (first | omega | (simp <;> omega))) | (refine q_val rfl (fun w' hb => r_loadElem1 ((S.grow hb).rdRow (D := (fInt .i64)) (i := 4) rfl) rfl ?_ ?_ rfl) ?_; (first | omega | (simp <;> omega)); (first | omega | (simp <;> omega))) | refine q_val rfl (fun w' hb => r_loadVarA (i := 2) (S.grow hb) rfl rfl rfl rfl) ?_) | (refine gq_callV ?_; first | refine q_callV rfl (fun w' hb => r_call2 rfl rfl rfl) (fun w' hb => at_spec (hR8.mono (S.grow hb).below) hl8n iw il) ?_ | refine q_callV rfl (fun w' hb => r_call2 rfl rfl rfl) (fun w' hb => atR_spec (hR8.mono (S.grow hb).below) hl8n iw il) ?_ | refine q_callV rfl (fun w' hb => r_call2 rfl rfl rfl) (fun w' hb => reads_spec (hR8.mono (S.grow hb).below) hl8n iw itt) ?_ | refine q_callV rfl (fun w' hb => r_call2 rfl rfl rfl) (fun w' hb => readsR_spec (hR8.mono (S.grow hb).below) hl8n iw itt) ?_ | refine q_callV rfl (fun w' hb => r_call3 rfl rfl rfl rfl) (fun w' hb => before_spec (hR8.mono (S.grow hb).below) hl8n iw il) ?_ | refine q_callV rfl (fun w' hb => r_call3 rfl rfl rfl rfl) (fun w' hb => beforeR_spec (hR8.mono (S.grow hb).below) hl8n iw il) ?_ | refine q_callV rfl (fun w' hb => r_call3 rfl rfl rfl rfl) (fun w' hb => after_spec (hR8.mono (S.grow hb).below) hl8n iw il) ?_ | refine q_callV rfl (fun w' hb => r_call3 rfl rfl rfl rfl) (fun w' hb => afterR_spec (hR8.mono (S.grow hb).below) hl8n iw il) ?_) | (refine wl_split rfl rfl (fun h => ?_) (fun h => ?_) <;> (fail_if_success (have hh : true = true := h)) <;> (try simp only [decide_eq_true_eq, decide_eq_false_iff_not, Bool.not_eq_true', Bool.not_eq_false', Int.not_lt, Int.not_le] at h) <;> (try (exfalso; omega)) <;> (try (exfalso; first | exact h rfl | exact h trivial; done))) | (refine ql_split rfl rfl (fun h => ?_) (fun h => ?_) <;> (fail_if_success (have hh : true = true := h)) <;> (try simp only [decide_eq_true_eq, decide_eq_false_iff_not, Bool.not_eq_true', Bool.not_eq_false', Int.not_lt, Int.not_le] at h) <;> (try (exfalso; omega)) <;> (try (exfalso; first | exact h rfl | exact h trivial; done))) | (refine WP_cond rfl (fun h => ?_) (fun h => ?_) <;> (fail_if_success (have hh : true = true := h)) <;> (try simp only [decide_eq_true_eq, decide_eq_false_iff_not, Bool.not_eq_true', Bool.not_eq_false', Int.not_lt, Int.not_le] at h) <;> (try (exfalso; omega)) <;> (try (exfalso; first | exact h rfl | exact h trivial; done))))
      refine ⟨⟨_, ?_, j + 1, ⟨rfl, rfl, rfl, rfl, rfl, rfl, rfl, rfl, rfl, trivial⟩, S, by omega, by omega, rfl⟩⟩
      omega
    · repeat' (first | refine WP_seq ?_ | refine WP_region ?_ | refine wl_nil ?_ | refine then_normal ?_ | refine inB_normal ?_ | refine then_exit ?_ | refine inB_here ?_ | refine WP_exit ?_ | (refine g_move ?_; refine st_move rfl ?_) | (refine g_assign ?_; refine st_assign rfl ?_) | (refine g_b_add ?_; (refine st_val rfl (r_addN rfl rfl ?_ ?_) ?_; (first | omega | (simp <;> omega)); (first | omega | (simp <;> omega)))) | (refine g_b_lss ?_; refine st_val rfl (r_lss rfl rfl) ?_) | (refine WP_cond rfl (fun h => ?_) (fun h => ?_) <;> (fail_if_success (have hh : true = true := h)) <;> (try simp only [decide_eq_true_eq, decide_eq_false_iff_not, Bool.not_eq_true', Bool.not_eq_false', Int.not_lt, Int.not_le] at h) <;> (try (exfalso; omega))))
      refine ⟨⟨_, ?_, 0 + 1, ⟨rfl, rfl, rfl, rfl, rfl, trivial⟩, S.keep [true, true], by omega, by omega, rfl⟩⟩
      omega
  · repeat' (first | refine WP_seq ?_ | refine WP_region ?_ | refine wl_nil ?_ | refine then_normal ?_ | refine WP_skip ?_ | refine WP_block ?_ | refine WP_condT rfl ?_ | refine WP_draw (by kernel_rfl) (by kernel_rfl) ?_ | (refine g_move ?_; refine st_move rfl ?_) | (refine g_b_lss ?_; refine st_val rfl (r_lss rfl rfl) ?_) | (refine g_indexAddr ?_; (refine st_val rfl (r_indexAddr (S.rdRow (D := fClk) (i := 1) rfl) rfl rfl ?_ ?_) ?_; (first | omega | (simp <;> omega)); (first | omega | (simp <;> omega)))) | (refine g_load ?_; (refine st_val rfl (r_loadElem (S.rdRow (D := fClk) (i := 1) rfl) rfl ?_ ?_) ?_; (first | omega | (simp <;> omega)); (first | omega | (simp <;> omega)))) | (refine gq_load ?_; refine q_val rfl (fun w' hb => r_loadVarA (i := 2) (S.grow hb) rfl rfl rfl rfl) ?_) | (refine g_alloc ?_; refine st_valE rfl (r_alloc S) ?_; rintro _ w ⟨b, rfl, -, S'⟩; replace S := S'; clear S') | (refine g_store ?_; first | (refine st_skipE rfl (r_storeVar (i := 0) S rfl rfl rfl rfl (of_decide_eq_true rfl) (of_decide_eq_true rfl)) ?_; intro w S'; replace S := S'; clear S') | (refine st_skipE rfl (r_storeVar (i := 1) S rfl rfl rfl rfl (of_decide_eq_true rfl) (of_decide_eq_true rfl)) ?_; intro w S'; replace S := S'; clear S') | (refine st_skipE rfl (r_storeVar (i := 2) S rfl rfl rfl rfl (of_decide_eq_true rfl) (of_decide_eq_true rfl)) ?_; intro w S'; replace S := S'; clear S') | (refine st_skipE rfl (r_storeVar (i := 3) S rfl rfl rfl rfl (of_decide_eq_true rfl) (of_decide_eq_true rfl)) ?_; intro w S'; replace S := S'; clear S')))
    obtain ⟨b28, rfl⟩ : ∃ z, z = b := ⟨_, rfl⟩
    repeat' (first | refine WP_seq ?_ | refine WP_region ?_ | refine then_normal ?_ | refine WP_skip ?_ | (refine ql_nil ?_; intro w hb; replace S := S.grow hb; clear hb) | (refine g_move ?_; refine st_move rfl ?_) | (refine gq_b_neq ?_; refine q_val rfl (fun w' hb => r_neqB rfl rfl) ?_) | (refine gq_load ?_; refine q_val rfl (fun w' hb => r_loadVarA (i := 2) (S.grow hb) rfl rfl rfl rfl) ?_) | (refine gq_callV ?_; first | refine q_callV rfl (fun w' hb => r_call1 rfl rfl) (fun w' hb => validC_spec ((S.grow hb).rdRow (D := fGReading) (i := 0) rfl) hl9n id) ?_ | refine q_callV rfl (fun w' hb => r_call1 rfl rfl) (fun w' hb => validR_spec ((S.grow hb).rdRow (D := fGReading) (i := 0) rfl) hl9n id) ?_) | (refine WP_cond rfl (fun h => ?_) (fun h => ?_) <;> (fail_if_success (have hh : true = true := h)) <;> (try simp only [decide_eq_true_eq, decide_eq_false_iff_not, Bool.not_eq_true', Bool.not_eq_false', Int.not_lt, Int.not_le] at h) <;> (try (exfalso; omega)) <;> (try (exfalso; first | exact h rfl | exact h trivial; done))))
    repeat' ((refine g_callV ?_; (refine st_callV rfl (r_call2 rfl rfl rfl) (pick_is hpl (by omega) (by omega) (by omega)) ?_; intro w hb; replace S := S.grow hb; clear hb)))
    refine st_valE rfl (r_litF (D := fInt .i64) [local_, pl] (Value.int .i64) S rfl rfl (fun _ => rfl) rfl (by decide) (by decide)) ?_
    rintro _ w ⟨bl, rfl, -, -, S'⟩; replace S := S'; clear S'
    repeat' (first | refine WP_seq ?_ | refine WP_region ?_ | refine wl_nil ?_ | refine then_normal ?_ | (refine g_move ?_; refine st_move rfl ?_) | (refine g_assign ?_; refine st_assign rfl ?_) | (refine g_callV ?_; (refine st_callV rfl (r_call2 rfl rfl rfl) (pick_is hpt (by omega) (by omega) (by omega)) ?_; intro w hb; replace S := S.grow hb; clear hb)))
    refine st_valE rfl (r_litF (D := fInt .i64) [t, pt] (Value.int .i64) S rfl rfl (fun _ => rfl) rfl (by decide) (by decide)) ?_
    rintro _ w ⟨bt, rfl, -, -, S'⟩; replace S := S'; clear S'
    repeat' (first | refine WP_seq ?_ | refine WP_region ?_ | refine wl_nil ?_ | refine then_normal ?_ | refine WP_block ?_ | (refine g_assign ?_; refine st_assign rfl ?_))
    refine WP_loop (fun k σ w1 => ∃ j : Int, Has σ [(5, .int .i64 local_), (6, .int .i64 t), (17, .bool true), (26, .slice (some ⟨bC, 0, none⟩) 2 2), (27, .int .i64 1), (28, .pointer (some ⟨b28, 0, none⟩)), (29, .slice (some ⟨bl, 0, none⟩) 2 2), (30, .slice (some ⟨bt, 0, none⟩) 2 2), (31, .int .i64 j)] ∧ St w0 w1 [rowOb fGReading 48 (.slice A9 l9.length c9) l9, rowOb fClk 24 (.slice (some ⟨bC, 0, none⟩) 2 2) [⟨drw, A8, l8.length, c8⟩, ⟨d, A9, l9.length, c9⟩], .var b28 24 [.int .i64 d, (.slice A9 l9.length c9)], rowOb (fInt .i64) 3 (.slice (some ⟨bl, 0, none⟩) 2 2) LO, rowOb (fInt .i64) 3 (.slice (some ⟨bt, 0, none⟩) 2 2) LT] ∧ 0 ≤ j ∧ j ≤ 2 ∧ k = 2 - j.toNat) 2 ⟨0, ⟨rfl, rfl, rfl, rfl, rfl, rfl, rfl, rfl, rfl, trivial⟩, (by rw [hLO, hLT]; exact S), by omega, by omega, by omega⟩ ?_
    clear S hs'
    rintro k σ w1 ⟨j, hs', S, j0, j1, rfl⟩
    refine WP_has hs' ?_
    by_cases hj : j < 2
    · have il := hLOi j j0 hj
      have itt := hLTi j j0 hj
      repeat' (first | refine WP_seq ?_ | refine WP_region ?_ | refine wl_nil ?_ | refine then_normal ?_ | refine inB_normal ?_ | refine WP_skip ?_ | refine WP_block ?_ | refine WP_draw (by kernel_rfl) (by kernel_rfl) ?_ | (refine ql_nil ?_; intro w hb; replace S := S.grow hb; clear hb) | (refine g_move ?_; refine st_move rfl ?_) | (refine g_assign ?_; refine st_assign rfl ?_) | (refine g_pick ?_; refine st_pickF rfl rfl ?_) | (refine g_b_add ?_; (refine st_val rfl (r_addN rfl rfl ?_ ?_) ?_; (first | omega | (simp <;> omega)); (first | omega | (simp <;> omega)))) | (refine g_b_neq ?_; refine st_val rfl (r_neq rfl rfl) ?_) | (refine g_b_lss ?_; refine st_val rfl (r_lss rfl rfl) ?_) | (refine gq_move ?_; refine q_move rfl ?_) | (refine gq_assign ?_; refine q_assign rfl ?_) | (refine gq_pick ?_; refine q_pickF rfl rfl ?_) | (refine gq_b_neq ?_; refine q_val rfl (fun w' hb => r_neqB rfl rfl) ?_) | (refine gq_extract ?_; refine q_val rfl (fun w' hb => r_extract rfl rfl) ?_) | (refine gq_indexAddr ?_; first | (refine q_val rfl (fun w' hb => r_indexAddr ((S.grow hb).rdRow (D := (fInt .i64)) (i := 3) rfl) rfl rfl ?_ ?_) ?_; (first | omega | (simp <;> omega)); (first | omega | (simp <;> omega))) | (refine q_val rfl (fun w' hb => r_indexAddr ((S.grow hb).rdRow (D := (fInt .i64)) (i := 4) rfl) rfl rfl ?_ ?_) ?_; (first | omega | (simp <;> omega)); (first | omega | (simp <;> omega)))) | (refine gq_load ?_; first | (refine q_val rfl (fun w' hb => r_loadElem1 ((S.grow hb).rdRow (D := (fInt .i64)) (i := 3) rfl) rfl ?_ ?_ rfl) ?_; (first | omega | (simp <;> omega)); (first | omega | (simp <;> omega))) | (refine q_val rfl (fun w' hb => r_loadElem1 ((S.grow hb).rdRow (D := (fInt .i64)) (i := 4) rfl) rfl ?_ ?_ rfl) ?_; (first | omega | (simp <;> omega)); (first | omega | (simp <;> omega))) | refine q_val rfl (fun w' hb => r_loadVarA (i := 2) (S.grow hb) rfl rfl rfl rfl) ?_) | (refine gq_callV ?_; first | refine q_callV rfl (fun w' hb => r_call2 rfl rfl rfl) (fun w' hb => at_spec ((S.grow hb).rdRow (D := fGReading) (i := 0) rfl) hl9n id il) ?_ | refine q_callV rfl (fun w' hb => r_call2 rfl rfl rfl) (fun w' hb => atR_spec ((S.grow hb).rdRow (D := fGReading) (i := 0) rfl) hl9n id il) ?_ | refine q_callV rfl (fun w' hb => r_call2 rfl rfl rfl) (fun w' hb => reads_spec ((S.grow hb).rdRow (D := fGReading) (i := 0) rfl) hl9n id itt) ?_ | refine q_callV rfl (fun w' hb => r_call2 rfl rfl rfl) (fun w' hb => readsR_spec ((S.grow hb).rdRow (D := fGReading) (i := 0) rfl) hl9n id itt) ?_ | refine q_callV rfl (fun w' hb => r_call3 rfl rfl rfl rfl) (fun w' hb => before_spec ((S.grow hb).rdRow (D := fGReading) (i := 0) rfl) hl9n id il) ?_ | refine q_callV rfl (fun w' hb => r_call3 rfl rfl rfl rfl) (fun w' hb => beforeR_spec ((S.grow hb).rdRow (D := fGReading) (i := 0) rfl) hl9n id il) ?_ | refine q_callV rfl (fun w' hb => r_call3 rfl rfl rfl rfl) (fun w' hb => after_spec ((S.grow hb).rdRow (D := fGReading) (i := 0) rfl) hl9n id il) ?_ | refine q_callV rfl (fun w' hb => r_call3 rfl rfl rfl rfl) (fun w' hb => afterR_spec ((S.grow hb).rdRow (D := fGReading) (i := 0) rfl) hl9n id il) ?_) | (refine wl_split rfl rfl (fun h => ?_) (fun h => ?_) <;> (fail_if_success (have hh : true = true := h)) <;> (try simp only [decide_eq_true_eq, decide_eq_false_iff_not, Bool.not_eq_true', Bool.not_eq_false', Int.not_lt, Int.not_le] at h) <;> (try (exfalso; omega)) <;> (try (exfalso; first | exact h rfl | exact h trivial; done))) | (refine ql_split rfl rfl (fun h => ?_) (fun h => ?_) <;> (fail_if_success (have hh : true = true := h)) <;> (try simp only [decide_eq_true_eq, decide_eq_false_iff_not, Bool.not_eq_true', Bool.not_eq_false', Int.not_lt, Int.not_le] at h) <;> (try (exfalso; omega)) <;> (try (exfalso; first | exact h rfl | exact h trivial; done))) | (refine WP_cond rfl (fun h => ?_) (fun h => ?_) <;> (fail_if_success (have hh : true = true := h)) <;> (try simp only [decide_eq_true_eq, decide_eq_false_iff_not, Bool.not_eq_true', Bool.not_eq_false', Int.not_lt, Int.not_le] at h) <;> (try (exfalso; omega)) <;> (try (exfalso; first | exact h rfl | exact h trivial; done))))
      refine ⟨⟨_, ?_, j + 1, ⟨rfl, rfl, rfl, rfl, rfl, rfl, rfl, rfl, rfl, trivial⟩, S, by omega, by omega, rfl⟩⟩
      omega
    · repeat' (first | refine WP_seq ?_ | refine WP_region ?_ | refine wl_nil ?_ | refine then_normal ?_ | refine inB_normal ?_ | refine then_exit ?_ | refine inB_here ?_ | refine WP_exit ?_ | (refine g_move ?_; refine st_move rfl ?_) | (refine g_assign ?_; refine st_assign rfl ?_) | (refine g_b_add ?_; (refine st_val rfl (r_addN rfl rfl ?_ ?_) ?_; (first | omega | (simp <;> omega)); (first | omega | (simp <;> omega)))) | (refine g_b_lss ?_; refine st_val rfl (r_lss rfl rfl) ?_) | (refine WP_cond rfl (fun h => ?_) (fun h => ?_) <;> (fail_if_success (have hh : true = true := h)) <;> (try simp only [decide_eq_true_eq, decide_eq_false_iff_not, Bool.not_eq_true', Bool.not_eq_false', Int.not_lt, Int.not_le] at h) <;> (try (exfalso; omega))))
      refine ⟨⟨_, ?_, 1 + 1, ⟨rfl, rfl, rfl, rfl, rfl, trivial⟩, S.keep [true, true], by omega, by omega, rfl⟩⟩
      omega
  · repeat' (first | refine WP_seq ?_ | refine WP_region ?_ | refine wl_nil ?_ | refine then_normal ?_ | refine then_exit ?_ | refine inB_here ?_ | refine WP_ret ?_ | refine WP_exit ?_ | refine WP_condF rfl ?_ | (refine g_move ?_; refine st_move rfl ?_) | (refine g_assign ?_; refine st_assign rfl ?_) | (refine g_b_lss ?_; refine st_val rfl (r_lss rfl rfl) ?_))
    exact end1 rfl rfl ⟨rfl, S.below⟩
end Go.Proofs.Ytgphmhpcaeiglaa
