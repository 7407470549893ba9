import Derived.Test.YtfdjnadopniaeaaLL
namespace Go.Proofs.Ytfdjnadopniaeaa
open Go Go.Gx Go.RowKit
open Kuhn
set_option linter.unusedVariables false
set_option linter.unusedSimpArgs false
theorem asn_code {l : List GGrant} {us : List GUse} (hl : validG l = true) (hu : validU us = true) : (asnI l us).2 = if asgL l us = true then 0 else 80 := by
  unfold asnI; simp only [hl, hu, true_and]
  by_cases h : asgL l us = true <;> simp [h]
theorem nth_playsL' (l : List GGrant) (j : Int) (h0 : 0 ≤ j) (h : j < l.length) : nth (playsL l) j = (nth l j).Plays := by
  unfold playsL nth
  have : j.toNat < l.length := by omega
  simp [List.getD, List.getElem?_eq_getElem this]
set_option maxRecDepth 20000 in
set_option maxHeartbeats 16000000 in
theorem rightsMore_spec {vx vy : Value} {xs : List GArr5Int} {ys : List GArr4Int} {m0 m1 m2 m3 m4 which : Int} {w0 : World} (hrx : Rd fGArr5Int.ty w0 vx xs) (hx : ∀ x ∈ xs, okA5 x) (hxl : xs.length ≤ maxLen) (hry : Rd fGArr4Int.ty w0 vy ys) (hy : ∀ x ∈ ys, okA4 x) (hyl : ys.length ≤ maxLen)
    (j0 : inI m0) (j1 : inI m1) (j2 : inI m2) (j3 : inI m3) (j4 : inI m4) (i3 : inI which) :
    CallsV Try.prog 8 #[vx, vy, .agg [.int .i64 m0, .int .i64 m1, .int .i64 m2, .int .i64 m3, .int .i64 m4].toArray, .int .i64 which] w0 (.bool true) := by
  have S := St.start w0
  unfold inI at i3
  obtain ⟨mo, hmo⟩ : ∃ z : GArr5Int, GArr5Int.mk m0 m1 m2 m3 m4 = z := ⟨_, rfl⟩
  have hmok : okA5 mo := by rw [← hmo]; exact ⟨j0, j1, j2, j3, j4⟩
  have hme : [Value.int .i64 m0, .int .i64 m1, .int .i64 m2, .int .i64 m3, .int .i64 m4] = mo.enc := by rw [← hmo]; rfl
  rw [hme]
  clear j0 j1 j2 j3 j4
  obtain ⟨l, hl⟩ : ∃ l, madeG xs = l := ⟨_, rfl⟩
  obtain ⟨us, hu⟩ : ∃ us, madeU ys = us := ⟨_, rfl⟩
  have vl := madeG_ok xs
  have vu := madeU_ok ys
  have ll := madeG_len xs
  have lu := madeU_len ys
  have pl := made_plays xs
  rw [hl] at vl ll pl
  rw [hu] at vu lu
  refine CallsV.mk ?_
  refine calls_enter Try.func8 rfl (by intro _ h; first | exact nomatch h.1 | (obtain ⟨_, h, _⟩ := h; exact nomatch h)) Try.ntmps8 rfl ?_
  repeat' (first | refine WP_seq ?_ | refine WP_region ?_ | refine wl_nil ?_ | refine then_normal ?_ | refine WP_skip ?_ | refine WP_condF rfl ?_ | (refine g_move ?_; refine st_move rfl ?_) | (refine g_assign ?_; refine st_assign rfl ?_) | (refine g_un ?_; refine st_val rfl (r_not rfl) ?_) | (refine g_callV ?_; (refine st_callV rfl (r_call0 rfl) (sane_spec) ?_; intro w hb; replace S := S.grow hb; clear hb)) | (refine g_box ?_; refine st_valE rfl (r_box S rfl) ?_; rintro _ w ⟨b, rfl, -, S'⟩; replace S := S'; clear S'))
  refine st_callR rfl (r_call1 rfl rfl) (made_run (hrx.mono S.below) hx hxl) ?_; rintro vL w hb hrow; replace S := S.new hb hrow; clear hb hrow
  repeat' (first | refine WP_seq ?_ | refine WP_region ?_ | refine wl_nil ?_ | refine then_normal ?_ | (refine g_move ?_; refine st_move rfl ?_) | (refine g_assign ?_; refine st_assign rfl ?_))
  refine st_callR rfl (r_call1 rfl rfl) (madeUses_run (hry.mono S.below) hy hyl) ?_; rintro vU w hb hrow; replace S := S.new hb hrow; clear hb hrow
  rw [hl, hu] at S
  obtain ⟨AU, cU, hz⟩ := (S.rdRow (D := fGUse) (i := 2) rfl).len; subst hz
  obtain ⟨AL, cL, hz⟩ := (S.rdRow (D := fGGrant) (i := 1) rfl).len; subst hz
  repeat' (first | refine WP_seq ?_ | refine WP_region ?_ | refine wl_nil ?_ | refine then_normal ?_ | (refine g_move ?_; refine st_move rfl ?_) | (refine g_assign ?_; refine st_assign rfl ?_))
  refine st_callR rfl (r_call2 rfl rfl rfl) (assign_run (S.rdRow (D := fGGrant) (i := 1) rfl) (S.rdRow (D := fGUse) (i := 2) rfl) (by omega) (by omega)) ?_; rintro v w hb ⟨vA, rfl, hrow⟩; replace S := S.new hb hrow; clear hb hrow
  cases ha : asgL l us with
  | false =>
    have hln := left_none (l := l) ha
    rw [asn_bad ha] at S ⊢
    obtain ⟨AS, cS, hz⟩ := (S.rdRow (D := fInt .i64) (i := 3) rfl).len; subst hz
    repeat' (first | refine WP_seq ?_ | refine WP_region ?_ | refine wl_nil ?_ | refine then_normal ?_ | refine WP_condT rfl ?_ | (refine g_move ?_; refine st_move rfl ?_) | (refine g_assign ?_; refine st_assign rfl ?_) | (refine g_b_eql ?_; refine st_val rfl (r_eql rfl rfl) ?_) | (refine g_b_neq ?_; refine st_val rfl (r_neq rfl rfl) ?_) | (refine g_extract ?_; refine st_val rfl (r_extract rfl rfl) ?_) | (refine g_c_len ?_; refine st_val rfl (r_lenSlice rfl) ?_))
    refine st_callR rfl (r_call3 rfl rfl rfl rfl) (left_run (S.rdRow (D := fGGrant) (i := 1) rfl) (S.rdRow (D := fGUse) (i := 2) rfl) (S.rdRow (D := fInt .i64) (i := 3) rfl) (by omega) (by omega) (by simp) (fun k hk => by cases hk)) ?_; rintro vb1 w hb hrow; replace S := S.new hb hrow; clear hb hrow
    rw [hln] at S
    obtain ⟨AT, cT, hz⟩ := (S.rdRow (D := fInt .i64) (i := 4) rfl).len; subst hz
    repeat' (first | refine wl_nil ?_ | refine then_normal ?_ | refine then_ret ?_ | refine WP_ret ?_ | (refine g_assign ?_; refine st_assign rfl ?_) | (refine g_pick ?_; refine st_pickT rfl rfl ?_) | (refine g_b_eql ?_; refine st_val rfl (r_eql rfl rfl) ?_) | (refine g_c_len ?_; refine st_val rfl (r_lenSlice rfl) ?_))
    exact end1 rfl rfl ⟨rfl, S.below⟩
  | true =>
    have hgl := greedy_len ha
    obtain ⟨a, hga⟩ : ∃ a, iz (greedy l.length us.length (prmN l us) (plyN l)) = a := ⟨_, rfl⟩
    obtain ⟨o, hlf, hsm⟩ := lft_sum vl ha us.length (Nat.le_refl _)
    have hal : a.length = us.length := by rw [← hga]; simp [iz, hgl]
    have hgr := greedy_rng vl ha
    have hasn := asn_ok vl vu ha
    rw [hga] at hlf hasn hgr
    have hleft := left_take vl vu (Nat.le_refl _) (by omega) hlf
    rw [List.take_length, ← hal, List.take_length] at hleft
    have hol := hlf.len
    rw [hasn] at S ⊢
    have hkr : ∀ k ∈ a, -9223372036854775808 ≤ k ∧ k ≤ 9223372036854775807 := fun k hk => by have := hgr k hk; omega
    repeat' (first | refine WP_seq ?_ | refine WP_region ?_ | refine wl_nil ?_ | refine then_normal ?_ | refine WP_skip ?_ | refine WP_condF rfl ?_ | (refine g_move ?_; refine st_move rfl ?_) | (refine g_assign ?_; refine st_assign rfl ?_) | (refine g_b_neq ?_; refine st_val rfl (r_neq rfl rfl) ?_) | (refine g_extract ?_; refine st_val rfl (r_extract rfl rfl) ?_))
    refine st_callR rfl (r_call3 rfl rfl rfl rfl) (left_run (S.rdRow (D := fGGrant) (i := 1) rfl) (S.rdRow (D := fGUse) (i := 2) rfl) (S.rdRow (D := fInt .i64) (l := a) (i := 3) rfl) (by omega) (by omega) (by omega) hkr) ?_; rintro vO w hb hrow; replace S := S.new hb hrow; clear hb hrow
    rw [hleft] at S
    obtain ⟨AO, cO, hz⟩ := (S.rdRow (D := fInt .i64) (i := 4) rfl).len; subst hz
    repeat' (first | refine WP_seq ?_ | refine WP_region ?_ | refine wl_nil ?_ | refine then_normal ?_ | refine WP_skip ?_ | refine WP_block ?_ | (refine g_move ?_; refine st_move rfl ?_) | (refine g_assign ?_; refine st_assign rfl ?_) | (refine g_b_neq ?_; refine st_val rfl (r_neq rfl rfl) ?_) | (refine g_c_len ?_; refine st_val rfl (r_lenSlice rfl) ?_) | (refine WP_cond rfl (fun h => ?_) (fun h => ?_) <;> (fail_if_success (have hh : true = true := h)) <;> (fail_if_success (have hh : false = false := h)) <;> (try simp only [decide_eq_true_eq, decide_eq_false_iff_not, Bool.not_eq_true', Bool.not_eq_false', Int.not_lt, Int.not_le] at h) <;> (try (exfalso; omega))))
    have hS : St w0 w [.var _ 57 mo.enc, rowOb fGGrant 52 (.slice AL l.length cL) l, rowOb fGUse 46 (.slice AU us.length cU) us, rowOb (fInt .i64) 3 vA a, rowOb (fInt .i64) 3 (.slice AO o.length cO) o] := S
    clear S; have S := hS.keep [true, true, true, false, true]; clear hS
    have hps : (playsL l).length = l.length := by simp [playsL]
    refine WP_loop (fun kk σ w1 => ∃ (i b6 : Nat), Has σ [(0, vx), (3, .int .i64 which), (6, ptr b6), (10, .slice AL l.length cL), (11, .slice AU us.length cU), (14, .slice AO o.length cO), (15, .int .i64 (us.length + (o.take i).sum - ((playsL l).take i).sum)), (16, .int .i64 (i : Int))] ∧ St w0 w1 [.var b6 57 mo.enc, rowOb fGGrant 52 (.slice AL l.length cL) l, rowOb fGUse 46 (.slice AU us.length cU) us, rowOb (fInt .i64) 3 (.slice AO o.length cO) o] ∧ i ≤ l.length ∧ kk = l.length - i ∧ 0 ≤ (o.take i).sum ∧ (o.take i).sum ≤ 100 * i ∧ 0 ≤ ((playsL l).take i).sum ∧ ((playsL l).take i).sum ≤ 100 * i) l.length ⟨0, _, ⟨rfl, rfl, rfl, rfl, rfl, rfl, by rw [show ((us.length : Int) + (o.take 0).sum - ((playsL l).take 0).sum) = us.length by simp]; rfl, rfl, trivial⟩, S, by omega, by omega, by simp, by simp, by simp, by simp⟩ ?_
    clear S
    rintro kk σ w1 ⟨i, b6, hsl, S, hi1, rfl, s1, s2, s3, s4⟩
    refine WP_has hsl ?_
    by_cases hi : i < l.length
    · have e1 := sum_take (o := o) (k := i) (by omega)
      have e2 := sum_take (o := playsL l) (k := i) (by omega)
      rw [nth_playsL' l (i : Int) (by omega) (by omega)] at e2
      have q1 := hlf.rng _ (nth_mem (l := o) (i := (i : Int)) (by omega) (by omega))
      have q2 := plays_ok vl (i := (i : Int)) (by omega) (by omega)
      repeat' (first | refine WP_seq ?_ | refine WP_region ?_ | refine wl_nil ?_ | refine then_normal ?_ | (refine g_move ?_; refine st_move rfl ?_) | (refine g_b_lss ?_; refine st_val rfl (r_lss rfl rfl) ?_) | (refine g_c_len ?_; refine st_val rfl (r_lenSlice rfl) ?_))
      refine WP_cond rfl (fun _ => ?_) (fun h => absurd (of_decide_eq_false h) (by omega))
      repeat' (first | refine WP_seq ?_ | refine WP_region ?_ | refine wl_nil ?_ | refine then_normal ?_ | refine inB_normal ?_ | refine WP_skip ?_ | refine WP_block ?_ | refine WP_draw (by kernel_rfl) (by kernel_rfl) ?_ | (refine ql_nil ?_; intro w hb; replace S := S.grow hb; clear hb) | (refine g_move ?_; refine st_move rfl ?_) | (refine g_assign ?_; refine st_assign rfl ?_) | (refine g_b_add ?_; (refine st_val rfl (r_addN rfl rfl ?_ ?_) ?_; (first | omega | (simp <;> omega)); (first | omega | (simp <;> omega)))) | (refine g_b_lss ?_; refine st_val rfl (r_lss rfl rfl) ?_) | (refine g_indexAddr ?_; (refine st_val rfl (r_indexAddr (S.rdRow (D := fInt .i64) (i := 3) rfl) rfl rfl ?_ ?_) ?_; (first | omega | (simp <;> omega)); (first | omega | (simp <;> omega)))) | (refine g_load ?_; (refine st_val rfl (r_loadElem1 (S.rdRow (D := fInt .i64) (i := 3) rfl) rfl ?_ ?_ rfl) ?_; (first | omega | (simp <;> omega)); (first | omega | (simp <;> omega)))) | (refine gq_move ?_; refine q_move rfl ?_) | (refine gq_assign ?_; refine q_assign rfl ?_) | (refine gq_b_add ?_; (refine q_val rfl (fun w' hb => r_addN rfl rfl ?_ ?_) ?_; (first | omega | (simp <;> omega)); (first | omega | (simp <;> omega)))) | (refine gq_b_sub ?_; (refine q_val rfl (fun w' hb => r_subN rfl rfl ?_ ?_) ?_; (first | omega | (simp <;> omega)); (first | omega | (simp <;> omega)))) | (refine gq_fieldAddr ?_; refine q_val rfl (fun w' hb => r_fieldAddr rfl) ?_) | (refine gq_indexAddr ?_; first | (refine q_val rfl (fun w' hb => r_indexAddr ((S.grow hb).rdRow (D := fInt .i64) (i := 3) rfl) rfl rfl ?_ ?_) ?_; (first | omega | (simp <;> omega)); (first | omega | (simp <;> omega))) | (refine q_val rfl (fun w' hb => r_indexAddr ((S.grow hb).rdRow (D := fGGrant) (i := 1) rfl) rfl rfl ?_ ?_) ?_; (first | omega | (simp <;> omega)); (first | omega | (simp <;> omega)))) | (refine gq_load ?_; first | (refine q_val rfl (fun w' hb => r_loadElem1 ((S.grow hb).rdRow (D := fInt .i64) (i := 3) rfl) rfl ?_ ?_ rfl) ?_; (first | omega | (simp <;> omega)); (first | omega | (simp <;> omega))) | (refine q_val rfl (fun w' hb => r_loadElemF ((S.grow hb).rdRow (D := fGGrant) (i := 1) rfl) rfl ?_ ?_ rfl) ?_; (first | omega | (simp <;> omega)); (first | omega | (simp <;> omega)))) | (refine WP_cond rfl (fun h => ?_) (fun h => ?_) <;> (fail_if_success (have hh : true = true := h)) <;> (fail_if_success (have hh : false = false := h)) <;> (try simp only [decide_eq_true_eq, decide_eq_false_iff_not, Bool.not_eq_true', Bool.not_eq_false', Int.not_lt, Int.not_le] at h) <;> (try (exfalso; omega))))
      refine nextI.mk ⟨_, ?_, i + 1, b6, ⟨rfl, rfl, rfl, rfl, rfl, rfl, ?_, rfl, trivial⟩, S, by omega, rfl, by omega, by omega, by omega, by omega⟩
      · omega
      · refine congrArg (Value.int .i64) ?_
        omega
    · have ei : i = l.length := by omega
      subst ei
      have et : o.take l.length = o := List.take_of_length_le (by omega)
      have et2 : (playsL l).take l.length = playsL l := List.take_of_length_le (by omega)
      rw [et] at s1 s2
      rw [et2] at s3 s4
      rw [et, et2]
      have e0 : (us.length : Int) + o.sum - (playsL l).sum = 0 := by omega
      rw [e0]
      repeat' (first | refine WP_seq ?_ | refine WP_region ?_ | refine wl_nil ?_ | refine then_normal ?_ | (refine g_move ?_; refine st_move rfl ?_) | (refine g_b_lss ?_; refine st_val rfl (r_lss rfl rfl) ?_) | (refine g_c_len ?_; refine st_val rfl (r_lenSlice rfl) ?_))
      refine WP_cond rfl (fun h => absurd (of_decide_eq_true h) (by omega)) (fun _ => ?_)
      repeat' (first | refine WP_seq ?_ | refine then_normal ?_ | refine then_exit ?_ | refine inB_here ?_ | refine WP_exit ?_ | (refine WP_drawE (fun w' => St w0 w' [.var b6 57 mo.enc]) [0,2,6] 1 3 [4,5,7] [8,9,10,11,12] (by kernel_rfl) (by decide) (by decide +kernel) (fun w' hb => (S.grow hb).keep [true, false, false, false]) ?_; intro w hb; replace S := S.grow hb; clear hb) | refine jq_nil ?_ | (refine gj_move ?_; refine jq_val rfl (fun w' hJ => ⟨rfl⟩) ?_) | (refine gj_assign ?_; refine jq_val rfl (fun w' hJ => ⟨rfl⟩) ?_) | (refine gj_load ?_; refine jq_val rfl (fun w' hJ => r_loadVarA (i := 0) hJ rfl rfl rfl rfl) ?_))
      have v9 := madeG_ok [mo]
      have l9 : (madeG [mo]).length ≤ 1 := by unfold madeG; simp
      have hcf : (asnI (l ++ madeG [mo]) us).2 = 0 := by rw [asn_code (valid_append vl v9 (by omega)) vu, if_pos (asg_append ha)]
      have hc0 : (asnI l us).2 = 0 := by rw [hasn]
      refine ⟨?_, ?_⟩
      · refine we_callR rfl (r_call1 rfl rfl) (made_run (hrx.mono S.below) hx hxl) ?_
        rintro vM w hb hrow; replace S := S.new hb hrow; clear hb hrow; rw [hl] at S
        refine ⟨S.keep [true, false, false, false, false], ?_⟩
        refine we_valE rfl (r_litF (D := fGArr5Int) [mo] (fun x => .agg x.enc.toArray) S rfl rfl (fun _ => rfl) rfl (by decide) (by decide)) ?_
        rintro _ w ⟨bl, rfl, -, -, S'⟩; replace S := S'; clear S'
        refine ⟨S.keep [true, false, false, false, false, false], ?_⟩
        refine we_callR rfl (r_call1 rfl rfl) (made_run (S.rdRow (D := fGArr5Int) (i := 5) rfl) (fun x hx => by cases List.mem_singleton.1 hx; exact hmok) (by simp [maxLen])) ?_
        rintro vN w hb hrow; replace S := S.new hb hrow; clear hb hrow
        refine ⟨S.keep [true, false, false, false, false, false, false], ?_⟩
        refine we_valE rfl (r_appendRd (D := fGGrant) (i := 4) S rfl (S.rdRow (D := fGGrant) (i := 6) rfl) rfl rfl rfl (by decide) oneG (by omega) (by omega)) ?_
        rintro vQ w ⟨-, S'⟩; replace S := S'; clear S'
        refine ⟨S.keep [true, false, false, false, false, false, false], ?_⟩
        refine we_callR rfl (r_call2 rfl rfl rfl) (assign_run (S.rdRow (D := fGGrant) (l := l ++ madeG [mo]) (i := 4) rfl) (S.rdRow (D := fGUse) (i := 2) rfl) (by rw [List.length_append]; omega) (by omega)) ?_
        rintro v w hb ⟨vT, rfl, hrow⟩; replace S := S.new hb hrow; clear hb hrow
        have S2 : St w0 w [.var b6 57 mo.enc, rowOb fGGrant 52 (.slice AL l.length cL) l, rowOb fGUse 46 (.slice AU us.length cU) us, rowOb (fInt .i64) 3 (.slice AO o.length cO) o] := S.keep [true, true, true, true, false, false, false, false]
        clear S; have S := S2; clear S2
        refine ⟨S.keep [true, false, false, false], we_nil ?_⟩
        rw [hcf]
        repeat' (first | refine WP_seq ?_ | refine WP_region ?_ | refine then_normal ?_ | refine jq_nil ?_ | (refine g_move ?_; refine st_move rfl ?_) | (refine gj_move ?_; refine jq_val rfl (fun w' hJ => ⟨rfl⟩) ?_) | (refine gj_assign ?_; refine jq_val rfl (fun w' hJ => ⟨rfl⟩) ?_) | (refine gj_extract ?_; refine jq_val rfl (fun w' hJ => r_extract rfl rfl) ?_))
        refine st_callR rfl (r_call1 rfl rfl) (made_run (hrx.mono S.below) hx hxl) ?_; rintro vR w hb hrow; replace S := S.new hb hrow; clear hb hrow
        rw [hl] at S
        obtain ⟨AR, cR, hz⟩ := (S.rdRow (D := fGGrant) (i := 4) rfl).len; subst hz
        by_cases hl0 : l.length = 0
        · repeat' (first | refine WP_seq ?_ | refine WP_region ?_ | refine wl_nil ?_ | refine then_normal ?_ | refine WP_skip ?_ | (refine g_move ?_; refine st_move rfl ?_) | (refine g_assign ?_; refine st_assign rfl ?_) | (refine g_b_gtr ?_; refine st_val rfl (r_gtr rfl rfl) ?_) | (refine g_c_len ?_; refine st_val rfl (r_lenSlice rfl) ?_) | (refine WP_cond rfl (fun h => ?_) (fun h => ?_) <;> (fail_if_success (have hh : true = true := h)) <;> (fail_if_success (have hh : false = false := h)) <;> (try simp only [decide_eq_true_eq, decide_eq_false_iff_not, Bool.not_eq_true', Bool.not_eq_false', Int.not_lt, Int.not_le] at h) <;> (try (exfalso; omega))))
          refine st_callR rfl (r_call2 rfl rfl rfl) (assign_run (S.rdRow (D := fGGrant) (i := 4) rfl) (S.rdRow (D := fGUse) (i := 2) rfl) (by omega) (by omega)) ?_; rintro v w hb ⟨vG, rfl, hrow⟩; replace S := S.new hb hrow; clear hb hrow
          rw [hc0]
          repeat' (first | refine WP_seq ?_ | refine WP_region ?_ | refine wl_nil ?_ | refine then_normal ?_ | refine WP_ret ?_ | (refine g_move ?_; refine st_move rfl ?_) | (refine g_assign ?_; refine st_assign rfl ?_) | (refine g_pick ?_; refine st_pickT rfl rfl ?_) | (refine g_b_eql ?_; refine st_val rfl (r_eql rfl rfl) ?_) | (refine g_extract ?_; refine st_val rfl (r_extract rfl rfl) ?_))
          exact end1 rfl rfl ⟨rfl, S.below⟩
        · obtain ⟨k, hk⟩ : ∃ z, pickI which l.length = z := ⟨_, rfl⟩
          have rk := pickI_range (c := which) (n := l.length) (by omega)
          rw [hk] at rk
          have hpk := pl _ (nth_mem (l := l) (i := k) rk.1 rk.2)
          have hsl := setP_length l k ((nth l k).Plays + 1)
          have hcg : (asnI (setP l k ((nth l k).Plays + 1)) us).2 = 0 := by rw [asn_code (validG_set vl rk.1 rk.2 (by omega) (by omega)) vu, if_pos (asg_rich ha rk.1 rk.2)]
          repeat' (first | refine WP_seq ?_ | refine WP_region ?_ | refine wl_nil ?_ | refine then_normal ?_ | (refine g_move ?_; refine st_move rfl ?_) | (refine g_assign ?_; refine st_assign rfl ?_) | (refine g_b_add ?_; (refine st_val rfl (r_addN rfl rfl ?_ ?_) ?_; (first | omega | (simp <;> omega)); (first | omega | (simp <;> omega)))) | (refine g_b_gtr ?_; refine st_val rfl (r_gtr rfl rfl) ?_) | (refine g_c_len ?_; refine st_val rfl (r_lenSlice rfl) ?_) | (refine g_fieldAddr ?_; refine st_val rfl (r_fieldAddr rfl) ?_) | (refine g_indexAddr ?_; (refine st_val rfl (r_indexAddr (S.rdRow (D := fGGrant) (i := 4) rfl) rfl rfl ?_ ?_) ?_; (first | omega | (simp <;> omega)); (first | omega | (simp <;> omega)))) | (refine g_load ?_; (refine st_val rfl (r_loadElemF (S.rdRow (D := fGGrant) (i := 4) rfl) rfl ?_ ?_ rfl) ?_; (first | omega | (simp <;> omega)); (first | omega | (simp <;> omega)))) | (refine g_callV ?_; (refine st_callV rfl (r_call2 rfl rfl rfl) (pick_is hk (by omega) (by omega) (by omega)) ?_; intro w hb; replace S := S.grow hb; clear hb)) | (refine WP_cond rfl (fun h => ?_) (fun h => ?_) <;> (fail_if_success (have hh : true = true := h)) <;> (fail_if_success (have hh : false = false := h)) <;> (try simp only [decide_eq_true_eq, decide_eq_false_iff_not, Bool.not_eq_true', Bool.not_eq_false', Int.not_lt, Int.not_le] at h) <;> (try (exfalso; omega))))
          refine g_store ?_
          refine st_skipE rfl (r_storeElemF (i := 4) (sz := 1) (D := fGGrant) (x := plG (nth l k) ((nth l k).Plays + 1)) S rfl rfl rfl rfl rfl (by decide) (fun c hc => by cases List.mem_singleton.1 hc; rfl) rk.1 rk.2) ?_
          intro w S'; clear S
          have S : St w0 w [.var b6 57 mo.enc, rowOb fGGrant 52 (.slice AL l.length cL) l, rowOb fGUse 46 (.slice AU us.length cU) us, rowOb (fInt .i64) 3 (.slice AO o.length cO) o, rowOb fGGrant 52 (.slice AR l.length cR) (setP l k ((nth l k).Plays + 1))] := S'
          clear S'
          repeat' (first | refine WP_seq ?_ | refine WP_region ?_ | refine wl_nil ?_ | refine then_normal ?_ | (refine g_move ?_; refine st_move rfl ?_))
          refine st_callR rfl (r_call2 rfl rfl rfl) (assign_run (S.rdRow (D := fGGrant) (i := 4) rfl) (S.rdRow (D := fGUse) (i := 2) rfl) (by omega) (by omega)) ?_; rintro v w hb ⟨vG, rfl, hrow⟩; replace S := S.new hb hrow; clear hb hrow
          rw [hcg]
          repeat' (first | refine WP_seq ?_ | refine WP_region ?_ | refine wl_nil ?_ | refine then_normal ?_ | refine WP_ret ?_ | (refine g_move ?_; refine st_move rfl ?_) | (refine g_assign ?_; refine st_assign rfl ?_) | (refine g_pick ?_; refine st_pickT rfl rfl ?_) | (refine g_b_eql ?_; refine st_val rfl (r_eql rfl rfl) ?_) | (refine g_extract ?_; refine st_val rfl (r_extract rfl rfl) ?_))
          exact end1 rfl rfl ⟨rfl, S.below⟩
      · refine we_valE rfl (r_litF (D := fGArr5Int) [mo] (fun x => .agg x.enc.toArray) S rfl rfl (fun _ => rfl) rfl (by decide) (by decide)) ?_
        rintro _ w ⟨bl, rfl, -, -, S'⟩; replace S := S'; clear S'
        refine ⟨S.keep [true, false, false, false, false], ?_⟩
        refine we_callR rfl (r_call1 rfl rfl) (made_run (hrx.mono S.below) hx hxl) ?_
        rintro vM w hb hrow; replace S := S.new hb hrow; clear hb hrow; rw [hl] at S
        refine ⟨S.keep [true, false, false, false, false, false], ?_⟩
        refine we_callR rfl (r_call1 rfl rfl) (made_run (S.rdRow (D := fGArr5Int) (i := 4) rfl) (fun x hx => by cases List.mem_singleton.1 hx; exact hmok) (by simp [maxLen])) ?_
        rintro vN w hb hrow; replace S := S.new hb hrow; clear hb hrow
        refine ⟨S.keep [true, false, false, false, false, false, false], ?_⟩
        refine we_valE rfl (r_appendRd (D := fGGrant) (i := 5) S rfl (S.rdRow (D := fGGrant) (i := 6) rfl) rfl rfl rfl (by decide) oneG (by omega) (by omega)) ?_
        rintro vQ w ⟨-, S'⟩; replace S := S'; clear S'
        refine ⟨S.keep [true, false, false, false, false, false, false], ?_⟩
        refine we_callR rfl (r_call2 rfl rfl rfl) (assign_run (S.rdRow (D := fGGrant) (l := l ++ madeG [mo]) (i := 5) rfl) (S.rdRow (D := fGUse) (i := 2) rfl) (by rw [List.length_append]; omega) (by omega)) ?_
        rintro v w hb ⟨vT, rfl, hrow⟩; replace S := S.new hb hrow; clear hb hrow
        have S2 : St w0 w [.var b6 57 mo.enc, rowOb fGGrant 52 (.slice AL l.length cL) l, rowOb fGUse 46 (.slice AU us.length cU) us, rowOb (fInt .i64) 3 (.slice AO o.length cO) o] := S.keep [true, true, true, true, false, false, false, false]
        clear S; have S := S2; clear S2
        refine ⟨S.keep [true, false, false, false], we_nil ?_⟩
        rw [hcf]
        repeat' (first | refine WP_seq ?_ | refine WP_region ?_ | refine then_normal ?_ | refine jq_nil ?_ | (refine g_move ?_; refine st_move rfl ?_) | (refine gj_move ?_; refine jq_val rfl (fun w' hJ => ⟨rfl⟩) ?_) | (refine gj_assign ?_; refine jq_val rfl (fun w' hJ => ⟨rfl⟩) ?_) | (refine gj_extract ?_; refine jq_val rfl (fun w' hJ => r_extract rfl rfl) ?_))
        refine st_callR rfl (r_call1 rfl rfl) (made_run (hrx.mono S.below) hx hxl) ?_; rintro vR w hb hrow; replace S := S.new hb hrow; clear hb hrow
        rw [hl] at S
        obtain ⟨AR, cR, hz⟩ := (S.rdRow (D := fGGrant) (i := 4) rfl).len; subst hz
        by_cases hl0 : l.length = 0
        · repeat' (first | refine WP_seq ?_ | refine WP_region ?_ | refine wl_nil ?_ | refine then_normal ?_ | refine WP_skip ?_ | (refine g_move ?_; refine st_move rfl ?_) | (refine g_assign ?_; refine st_assign rfl ?_) | (refine g_b_gtr ?_; refine st_val rfl (r_gtr rfl rfl) ?_) | (refine g_c_len ?_; refine st_val rfl (r_lenSlice rfl) ?_) | (refine WP_cond rfl (fun h => ?_) (fun h => ?_) <;> (fail_if_success (have hh : true = true := h)) <;> (fail_if_success (have hh : false = false := h)) <;> (try simp only [decide_eq_true_eq, decide_eq_false_iff_not, Bool.not_eq_true', Bool.not_eq_false', Int.not_lt, Int.not_le] at h) <;> (try (exfalso; omega))))
          refine st_callR rfl (r_call2 rfl rfl rfl) (assign_run (S.rdRow (D := fGGrant) (i := 4) rfl) (S.rdRow (D := fGUse) (i := 2) rfl) (by omega) (by omega)) ?_; rintro v w hb ⟨vG, rfl, hrow⟩; replace S := S.new hb hrow; clear hb hrow
          rw [hc0]
          repeat' (first | refine WP_seq ?_ | refine WP_region ?_ | refine wl_nil ?_ | refine then_normal ?_ | refine WP_ret ?_ | (refine g_move ?_; refine st_move rfl ?_) | (refine g_assign ?_; refine st_assign rfl ?_) | (refine g_pick ?_; refine st_pickT rfl rfl ?_) | (refine g_b_eql ?_; refine st_val rfl (r_eql rfl rfl) ?_) | (refine g_extract ?_; refine st_val rfl (r_extract rfl rfl) ?_))
          exact end1 rfl rfl ⟨rfl, S.below⟩
        · obtain ⟨k, hk⟩ : ∃ z, pickI which l.length = z := ⟨_, rfl⟩
          have rk := pickI_range (c := which) (n := l.length) (by omega)
          rw [hk] at rk
          have hpk := pl _ (nth_mem (l := l) (i := k) rk.1 rk.2)
          have hsl := setP_length l k ((nth l k).Plays + 1)
          have hcg : (asnI (setP l k ((nth l k).Plays + 1)) us).2 = 0 := by rw [asn_code (validG_set vl rk.1 rk.2 (by omega) (by omega)) vu, if_pos (asg_rich ha rk.1 rk.2)]
          repeat' (first | refine WP_seq ?_ | refine WP_region ?_ | refine wl_nil ?_ | refine then_normal ?_ | (refine g_move ?_; refine st_move rfl ?_) | (refine g_assign ?_; refine st_assign rfl ?_) | (refine g_b_add ?_; (refine st_val rfl (r_addN rfl rfl ?_ ?_) ?_; (first | omega | (simp <;> omega)); (first | omega | (simp <;> omega)))) | (refine g_b_gtr ?_; refine st_val rfl (r_gtr rfl rfl) ?_) | (refine g_c_len ?_; refine st_val rfl (r_lenSlice rfl) ?_) | (refine g_fieldAddr ?_; refine st_val rfl (r_fieldAddr rfl) ?_) | (refine g_indexAddr ?_; (refine st_val rfl (r_indexAddr (S.rdRow (D := fGGrant) (i := 4) rfl) rfl rfl ?_ ?_) ?_; (first | omega | (simp <;> omega)); (first | omega | (simp <;> omega)))) | (refine g_load ?_; (refine st_val rfl (r_loadElemF (S.rdRow (D := fGGrant) (i := 4) rfl) rfl ?_ ?_ rfl) ?_; (first | omega | (simp <;> omega)); (first | omega | (simp <;> omega)))) | (refine g_callV ?_; (refine st_callV rfl (r_call2 rfl rfl rfl) (pick_is hk (by omega) (by omega) (by omega)) ?_; intro w hb; replace S := S.grow hb; clear hb)) | (refine WP_cond rfl (fun h => ?_) (fun h => ?_) <;> (fail_if_success (have hh : true = true := h)) <;> (fail_if_success (have hh : false = false := h)) <;> (try simp only [decide_eq_true_eq, decide_eq_false_iff_not, Bool.not_eq_true', Bool.not_eq_false', Int.not_lt, Int.not_le] at h) <;> (try (exfalso; omega))))
          refine g_store ?_
          refine st_skipE rfl (r_storeElemF (i := 4) (sz := 1) (D := fGGrant) (x := plG (nth l k) ((nth l k).Plays + 1)) S rfl rfl rfl rfl rfl (by decide) (fun c hc => by cases List.mem_singleton.1 hc; rfl) rk.1 rk.2) ?_
          intro w S'; clear S
          have S : St w0 w [.var b6 57 mo.enc, rowOb fGGrant 52 (.slice AL l.length cL) l, rowOb fGUse 46 (.slice AU us.length cU) us, rowOb (fInt .i64) 3 (.slice AO o.length cO) o, rowOb fGGrant 52 (.slice AR l.length cR) (setP l k ((nth l k).Plays + 1))] := S'
          clear S'
          repeat' (first | refine WP_seq ?_ | refine WP_region ?_ | refine wl_nil ?_ | refine then_normal ?_ | (refine g_move ?_; refine st_move rfl ?_))
          refine st_callR rfl (r_call2 rfl rfl rfl) (assign_run (S.rdRow (D := fGGrant) (i := 4) rfl) (S.rdRow (D := fGUse) (i := 2) rfl) (by omega) (by omega)) ?_; rintro v w hb ⟨vG, rfl, hrow⟩; replace S := S.new hb hrow; clear hb hrow
          rw [hcg]
          repeat' (first | refine WP_seq ?_ | refine WP_region ?_ | refine wl_nil ?_ | refine then_normal ?_ | refine WP_ret ?_ | (refine g_move ?_; refine st_move rfl ?_) | (refine g_assign ?_; refine st_assign rfl ?_) | (refine g_pick ?_; refine st_pickT rfl rfl ?_) | (refine g_b_eql ?_; refine st_val rfl (r_eql rfl rfl) ?_) | (refine g_extract ?_; refine st_val rfl (r_extract rfl rfl) ?_))
          exact end1 rfl rfl ⟨rfl, S.below⟩
end Go.Proofs.Ytfdjnadopniaeaa
