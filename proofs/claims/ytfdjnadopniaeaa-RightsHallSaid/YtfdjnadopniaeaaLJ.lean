import Derived.Test.YtfdjnadopniaeaaLI
namespace Go.Proofs.Ytfdjnadopniaeaa
open Go Go.Gx Go.RowKit
open Kuhn
set_option linter.unusedVariables false
set_option linter.unusedSimpArgs false
theorem nth_setI (o : List Int) (i : Int) (x : Int) (h0 : 0 ≤ i) (h : i < o.length) (j : Int) (hj : 0 ≤ j) : nth (o.set i.toNat x) j = if j = i then x else nth o j := nth_set o i x h0 h j hj
theorem nth_playsL (l : List GGrant) (j : Int) (h0 : 0 ≤ j) (h : j < l.length) : nth (playsL l) j = (nth l j).Plays := by
  unfold playsL nth
  have : j.toNat < l.length := by omega
  simp [List.getD, List.getElem?_eq_getElem this]
set_option maxRecDepth 20000 in
set_option maxHeartbeats 16000000 in
theorem rightsHall_spec {vx vy : Value} {xs : List GArr5Int} {ys : List GArr4Int} {w0 : World} (hrx : Rd fGArr5Int.ty w0 vx xs) (hx : ∀ x ∈ xs, okA5 x) (hxl : xs.length ≤ maxLen) (hry : Rd fGArr4Int.ty w0 vy ys) (hy : ∀ x ∈ ys, okA4 x) (hyl : ys.length ≤ maxLen) :
    CallsV Try.prog 4 #[vx, vy] w0 (.bool true) := by
  have S := St.start w0
  obtain ⟨l, hl⟩ : ∃ l, madeG xs = l := ⟨_, rfl⟩
  obtain ⟨us, hu⟩ : ∃ us, madeU ys = us := ⟨_, rfl⟩
  have vl := madeG_ok xs
  have vu := madeU_ok ys
  have ll := madeG_len xs
  have lu := madeU_len ys
  rw [hl] at vl ll
  rw [hu] at vu lu
  obtain ⟨s, hq1⟩ : ∃ q, (lackI l us).1 = q := ⟨_, rfl⟩
  obtain ⟨b, hq2⟩ : ∃ q, (lackI l us).2 = q := ⟨_, rfl⟩
  have hq : lackI l us = (s, b) := Prod.ext hq1 hq2
  refine CallsV.mk ?_
  refine calls_enter Try.func4 rfl (by intro _ h; first | exact nomatch h.1 | (obtain ⟨_, h, _⟩ := h; exact nomatch h)) Try.ntmps4 rfl ?_
  repeat' (first | refine WP_seq ?_ | refine WP_region ?_ | refine wl_nil ?_ | refine then_normal ?_ | refine WP_skip ?_ | refine WP_condF rfl ?_ | (refine g_move ?_; refine st_move rfl ?_) | (refine g_assign ?_; refine st_assign rfl ?_) | (refine g_un ?_; refine st_val rfl (r_not rfl) ?_) | (refine g_callV ?_; (refine st_callV rfl (r_call0 rfl) (sane_spec) ?_; intro w hb; replace S := S.grow hb; clear hb)))
  refine st_callR rfl (r_call1 rfl rfl) (made_run (hrx.mono S.below) hx hxl) ?_; rintro vL w hb hrow; replace S := S.new hb hrow; clear hb hrow
  repeat' (first | refine WP_seq ?_ | refine WP_region ?_ | refine wl_nil ?_ | refine then_normal ?_ | (refine g_move ?_; refine st_move rfl ?_) | (refine g_assign ?_; refine st_assign rfl ?_))
  refine st_callR rfl (r_call1 rfl rfl) (madeUses_run (hry.mono S.below) hy hyl) ?_; rintro vU w hb hrow; replace S := S.new hb hrow; clear hb hrow
  rw [hl, hu] at S
  obtain ⟨AU, cU, hz⟩ := (S.rdRow (D := fGUse) (i := 1) rfl).len; subst hz
  obtain ⟨AL, cL, hz⟩ := (S.rdRow (D := fGGrant) (i := 0) rfl).len; subst hz
  repeat' (first | refine WP_seq ?_ | refine WP_region ?_ | refine wl_nil ?_ | refine then_normal ?_ | (refine g_move ?_; refine st_move rfl ?_) | (refine g_assign ?_; refine st_assign rfl ?_))
  refine st_callR rfl (r_call2 rfl rfl rfl) (assign_run (S.rdRow (D := fGGrant) (i := 0) rfl) (S.rdRow (D := fGUse) (i := 1) rfl) (by omega) (by omega)) ?_; rintro v w hb ⟨vA, rfl, hrow⟩; replace S := S.new hb hrow; clear hb hrow
  cases b with
  | false =>
    obtain ⟨hs, ha⟩ := lack_none vl vu hq
    subst hs
    have hgl := greedy_len ha
    obtain ⟨a, hga⟩ : ∃ a, iz (greedy l.length us.length (prmN l us) (plyN l)) = a := ⟨_, rfl⟩
    have hlf0 := lft_zero vl ha
    have hgr := greedy_rng vl ha
    have hal : a.length = us.length := by rw [← hga]; simp [iz, hgl]
    have hasn := asn_ok vl vu ha
    rw [hga] at hasn hlf0 hgr
    rw [hasn] at S ⊢
    have hS : St w0 w [rowOb fGGrant 52 (.slice AL l.length cL) l, rowOb fGUse 46 (.slice AU us.length cU) us, rowOb (fInt .i64) 3 vA a] := S
    clear S; have S := hS; clear hS
    obtain ⟨AS, cS, hz⟩ := (S.rdRow (D := fInt .i64) (i := 2) rfl).len; subst hz
    repeat' (first | refine WP_seq ?_ | refine WP_region ?_ | refine wl_nil ?_ | refine then_normal ?_ | (refine g_move ?_; refine st_move rfl ?_) | (refine g_assign ?_; refine st_assign rfl ?_) | (refine g_extract ?_; refine st_val rfl (r_extract rfl rfl) ?_))
    refine st_callR rfl (r_call2 rfl rfl rfl) (lack_run (S.rdRow (D := fGGrant) (i := 0) rfl) (S.rdRow (D := fGUse) (i := 1) rfl) (by omega) (by omega)) ?_; rintro v w hb ⟨vS, rfl, hrow⟩; replace S := S.new hb hrow; clear hb hrow
    rw [hq1] at S
    rw [hq2]
    obtain ⟨AT, cT, hz⟩ := (S.rdRow (D := fInt .i64) (i := 3) rfl).len; subst hz
    repeat' (first | refine WP_seq ?_ | refine WP_region ?_ | refine wl_nil ?_ | refine then_normal ?_ | refine WP_skip ?_ | refine WP_condT rfl ?_ | refine WP_condF rfl ?_ | (refine g_move ?_; refine st_move rfl ?_) | (refine g_assign ?_; refine st_assign rfl ?_) | (refine g_b_eql ?_; first | refine st_val rfl (r_eql rfl rfl) ?_ | refine st_val rfl (r_eqlB rfl rfl) ?_) | (refine g_un ?_; refine st_val rfl (r_not rfl) ?_) | (refine g_extract ?_; refine st_val rfl (r_extract rfl rfl) ?_) | (refine g_c_len ?_; refine st_val rfl (r_lenSlice rfl) ?_))
    refine st_valE rfl (r_makeF (D := fInt .i64) (m := l.length) (0 : Int) S rfl rfl rfl (by decide) (by omega) (by omega)) ?_
    rintro _ w ⟨bu, rfl, -, S'⟩; clear S
    obtain ⟨vC, hvC⟩ : ∃ vC : Value, Value.slice (some ⟨bu, 0, none⟩) l.length l.length = vC := ⟨_, rfl⟩
    have S : St w0 w [rowOb fGGrant 52 (.slice AL l.length cL) l, rowOb fGUse 46 (.slice AU us.length cU) us, rowOb (fInt .i64) 3 (.slice AS a.length cS) a, rowOb (fInt .i64) 3 (.slice (some ⟨bu, 0, none⟩) l.length l.length) (List.replicate l.length 0)] := S'.keep [true, true, true, false, true]
    clear S'
    rw [hvC] at S ⊢
    repeat' (first | refine WP_seq ?_ | refine WP_region ?_ | refine wl_nil ?_ | refine then_normal ?_ | refine WP_skip ?_ | refine WP_block ?_ | refine WP_condF rfl ?_ | (refine g_move ?_; refine st_move rfl ?_) | (refine g_assign ?_; refine st_assign rfl ?_) | (refine g_pick ?_; refine st_pickF rfl rfl ?_) | (refine g_b_neq ?_; refine st_val rfl (r_neq rfl rfl) ?_) | (refine g_b_gtr ?_; refine st_val rfl (r_gtr rfl rfl) ?_) | (refine g_c_len ?_; refine st_val rfl (r_lenSlice rfl) ?_) | (refine wl_split rfl rfl (fun h => ?_) (fun h => ?_) <;> (fail_if_success (have hh : true = true := h)) <;> (fail_if_success (have hh : false = false := h)) <;> (try simp only [decide_eq_true_eq, decide_eq_false_iff_not, Bool.not_eq_true', Bool.not_eq_false', Int.not_lt, Int.not_le] at h) <;> (try (exfalso; omega))))
    refine WP_loop (fun k σ w1 => ∃ (i : Nat) (o ul : List Int), Has σ [(5, .bool true), (6, .slice AL l.length cL), (7, .slice AU us.length cU), (8, .slice AS a.length cS), (12, vC), (13, .int .i64 (i : Int))] ∧ St w0 w1 [rowOb fGGrant 52 (.slice AL l.length cL) l, rowOb fGUse 46 (.slice AU us.length cU) us, rowOb (fInt .i64) 3 (.slice AS a.length cS) a, rowOb (fInt .i64) 3 vC ul] ∧ i ≤ us.length ∧ k = us.length - i ∧ Lft l us a i o ∧ ul.length = l.length ∧ ∀ j : Int, 0 ≤ j → j < l.length → nth ul j + nth o j = (nth l j).Plays) us.length ⟨0, playsL l, List.replicate l.length 0, ⟨rfl, rfl, rfl, rfl, rfl, rfl, trivial⟩, S, by omega, by omega, hlf0, by simp, ?_⟩ ?_
    · intro j h0 h1
      have : nth (List.replicate l.length (0 : Int)) j = 0 := by simp [nth, List.getD, List.getElem?_replicate]; split <;> rfl
      rw [this, nth_playsL l j h0 h1]; omega
    clear S hlf0
    rintro k σ w1 ⟨i, o, ul, hsl, S, hi1, rfl, hlf, hul, hsum⟩
    refine WP_has hsl ?_
    by_cases hi : i < us.length
    · obtain ⟨k, st⟩ := hlf.step hi
      have st1 := st.at_
      subst st1
      have st2 := st.k0
      have st3 := st.kl
      have st5 := st.pos
      have hol := hlf.len
      have hok := hlf.rng _ (nth_mem (l := o) (i := nth a (i : Int)) (by omega) (by omega))
      have hpk := plays_ok vl (i := nth a (i : Int)) (by omega) (by omega)
      have hsk := hsum (nth a (i : Int)) (by omega) (by omega)
      have hUn := okU_of vu _ (nth_mem (l := us) (i := (i : Int)) (by omega) (by omega))
      have hmem := (mem_perI (k := nth a (i : Int)) vl hUn).2 ⟨st2, st3, st.pm⟩
      have hper : decide (nth a (i : Int) ∈ perI l (nth us (i : Int))) = true := decide_eq_true hmem
      have hpl : (perI l (nth us (i : Int))).length ≤ l.length := by
        unfold perI; split
        · exact perN_len ..
        · simp
      repeat' (first | refine WP_seq ?_ | refine WP_region ?_ | refine wl_nil ?_ | refine then_normal ?_ | (refine g_move ?_; refine st_move rfl ?_) | (refine g_b_lss ?_; refine st_val rfl (r_lss rfl rfl) ?_) | (refine g_c_len ?_; refine st_val rfl (r_lenSlice rfl) ?_))
      refine WP_cond rfl (fun _ => ?_) (fun h => absurd (of_decide_eq_false h) (by omega))
      repeat' (first | refine WP_seq ?_ | refine then_normal ?_ | refine WP_skip ?_ | refine WP_block ?_ | (refine WP_drawJ (fun w' => St w0 w' [rowOb fGUse 46 (.slice AU us.length cU) us, rowOb (fInt .i64) 3 (.slice AS a.length cS) a]) [0,1,2,3,4,6,7,8,9] [5] [10,11] (by kernel_rfl) (by decide) (by decide +kernel) (fun w' hb => (S.grow hb).keep [false, true, true, false]) ?_; intro w hb; replace S := S.grow hb; clear hb) | refine jq_nil ?_ | (refine gj_move ?_; refine jq_val rfl (fun w' hJ => ⟨rfl⟩) ?_) | (refine gj_assign ?_; refine jq_val rfl (fun w' hJ => ⟨rfl⟩) ?_) | (refine gj_indexAddr ?_; first | (refine jq_val rfl (fun w' hJ => r_indexAddr (hJ.rdRow (D := fGUse) (i := 0) rfl) rfl rfl ?_ ?_) ?_; (first | omega | (simp <;> omega)); (first | omega | (simp <;> omega))) | (refine jq_val rfl (fun w' hJ => r_indexAddr (hJ.rdRow (D := fInt .i64) (i := 1) rfl) rfl rfl ?_ ?_) ?_; (first | omega | (simp <;> omega)); (first | omega | (simp <;> omega)))) | (refine gj_load ?_; first | (refine jq_val rfl (fun w' hJ => r_loadElem (hJ.rdRow (D := fGUse) (i := 0) rfl) rfl ?_ ?_) ?_; (first | omega | (simp <;> omega)); (first | omega | (simp <;> omega))) | (refine jq_val rfl (fun w' hJ => r_loadElem1 (hJ.rdRow (D := fInt .i64) (i := 1) rfl) rfl ?_ ?_ rfl) ?_; (first | omega | (simp <;> omega)); (first | omega | (simp <;> omega)))))
      refine wj_callR rfl (r_call2 rfl rfl rfl) (permits_run (u := nth us (i : Int)) (S.rdRow (D := fGGrant) (i := 0) rfl) (by omega)) ?_
      rintro vP w hb hrow; replace S := S.new hb hrow; clear hb hrow
      refine ⟨S.keep [false, true, true, false, false], wj_nil ?_⟩
      repeat' (first | refine WP_seq ?_ | refine wl_nil ?_ | refine then_normal ?_ | refine WP_skip ?_ | refine WP_condF rfl ?_ | refine WP_drawTail 13 (by kernel_rfl) (by decide +kernel) ?_ | (refine ql_nil ?_; intro w hb; replace S := S.grow hb; clear hb) | (refine g_un ?_; refine st_val rfl (r_not rfl) ?_) | (refine g_indexAddr ?_; (refine st_val rfl (r_indexAddr (S.rdRow (D := fInt .i64) (i := 3) rfl) rfl rfl ?_ ?_) ?_; (first | omega | (simp <;> omega)); (first | omega | (simp <;> omega)))) | (refine g_callV ?_; (refine st_callV rfl (r_call2 rfl rfl rfl) (has_is (S.rdRow (D := fInt .i64) (i := 4) rfl) (by omega) hper) ?_; intro w hb; replace S := S.grow hb; clear hb)) | (refine gq_move ?_; refine q_move rfl ?_) | (refine gq_b_add ?_; (refine q_val rfl (fun w' hb => r_addN rfl rfl ?_ ?_) ?_; (first | omega | (simp <;> omega)); (first | omega | (simp <;> omega)))) | (refine gq_indexAddr ?_; first | (refine q_val rfl (fun w' hb => r_indexAddr ((S.grow hb).rdRow (D := fInt .i64) (i := 2) rfl) rfl rfl ?_ ?_) ?_; (first | omega | (simp <;> omega)); (first | omega | (simp <;> omega))) | (refine q_val rfl (fun w' hb => r_indexAddr ((S.grow hb).rdRow (D := fInt .i64) (i := 3) rfl) rfl rfl ?_ ?_) ?_; (first | omega | (simp <;> omega)); (first | omega | (simp <;> omega)))) | (refine gq_load ?_; first | (refine q_val rfl (fun w' hb => r_loadElem1 ((S.grow hb).rdRow (D := fInt .i64) (i := 2) rfl) rfl ?_ ?_ rfl) ?_; (first | omega | (simp <;> omega)); (first | omega | (simp <;> omega))) | (refine q_val rfl (fun w' hb => r_loadElem1 ((S.grow hb).rdRow (D := fInt .i64) (i := 3) rfl) rfl ?_ ?_ rfl) ?_; (first | omega | (simp <;> omega)); (first | omega | (simp <;> omega)))))
      refine g_store ?_
      refine st_skipE rfl (r_storeElem (i := 3) (D := fInt .i64) (x := nth ul (nth a (i : Int)) + 1) S rfl rfl rfl rfl (fun c hc => by cases List.mem_singleton.1 hc; rfl) (by omega) (by omega)) ?_
      intro w S'; clear S
      have S : St w0 w [rowOb fGGrant 52 (.slice AL l.length cL) l, rowOb fGUse 46 (.slice AU us.length cU) us, rowOb (fInt .i64) 3 (.slice AS a.length cS) a, rowOb (fInt .i64) 3 vC (ul.set (nth a (i : Int)).toNat (nth ul (nth a (i : Int)) + 1))] := S'.keep [true, true, true, true, false]
      clear S'
      have en : nth (ul.set (nth a (i : Int)).toNat (nth ul (nth a (i : Int)) + 1)) (nth a (i : Int)) = nth ul (nth a (i : Int)) + 1 := by rw [nth_setI _ _ _ (by omega) (by omega) _ (by omega), if_pos rfl]
      have el : (ul.set (nth a (i : Int)).toNat (nth ul (nth a (i : Int)) + 1)).length = l.length := by simp [hul]
      have eb : ¬ nth (ul.set (nth a (i : Int)).toNat (nth ul (nth a (i : Int)) + 1)) (nth a (i : Int)) > (nth l (nth a (i : Int))).Plays := by rw [en]; omega
      have hsum' : ∀ j : Int, 0 ≤ j → j < l.length → nth (ul.set (nth a (i : Int)).toNat (nth ul (nth a (i : Int)) + 1)) j + nth (o.set (nth a (i : Int)).toNat (nth o (nth a (i : Int)) - 1)) j = (nth l j).Plays := by
        intro j h0 h1
        have := hsum j h0 h1
        rw [nth_setI _ _ _ (by omega) (by omega) _ h0, nth_setI _ _ _ (by omega) (by omega) _ h0]
        by_cases e : j = nth a (i : Int)
        · rw [if_pos e, if_pos e]; rw [e] at this ⊢; omega
        · rw [if_neg e, if_neg e]; exact this
      obtain ⟨ul', hul'⟩ : ∃ z, ul.set (nth a (i : Int)).toNat (nth ul (nth a (i : Int)) + 1) = z := ⟨_, rfl⟩
      rw [hul'] at S en el eb hsum'
      repeat' (first | refine WP_seq ?_ | refine WP_region ?_ | refine wl_nil ?_ | refine then_normal ?_ | refine inB_normal ?_ | refine WP_skip ?_ | refine WP_draw (by kernel_rfl) (by kernel_rfl) ?_ | (refine ql_nil ?_; intro w hb; replace S := S.grow hb; clear hb) | (refine g_move ?_; refine st_move rfl ?_) | (refine g_assign ?_; refine st_assign rfl ?_) | (refine g_b_add ?_; (refine st_val rfl (r_addN rfl rfl ?_ ?_) ?_; (first | omega | (simp <;> omega)); (first | omega | (simp <;> omega)))) | (refine gq_move ?_; refine q_move rfl ?_) | (refine gq_b_gtr ?_; refine q_val rfl (fun w' hb => r_gtr rfl rfl) ?_) | (refine gq_fieldAddr ?_; refine q_val rfl (fun w' hb => r_fieldAddr rfl) ?_) | (refine gq_indexAddr ?_; first | (refine q_val rfl (fun w' hb => r_indexAddr ((S.grow hb).rdRow (D := fInt .i64) (i := 2) rfl) rfl rfl ?_ ?_) ?_; (first | omega | (simp <;> omega)); (first | omega | (simp <;> omega))) | (refine q_val rfl (fun w' hb => r_indexAddr ((S.grow hb).rdRow (D := fInt .i64) (i := 3) rfl) rfl rfl ?_ ?_) ?_; (first | omega | (simp <;> omega)); (first | omega | (simp <;> omega))) | (refine q_val rfl (fun w' hb => r_indexAddr ((S.grow hb).rdRow (D := fGGrant) (i := 0) rfl) rfl rfl ?_ ?_) ?_; (first | omega | (simp <;> omega)); (first | omega | (simp <;> omega)))) | (refine gq_load ?_; first | (refine q_val rfl (fun w' hb => r_loadElem1 ((S.grow hb).rdRow (D := fInt .i64) (i := 2) rfl) rfl ?_ ?_ rfl) ?_; (first | omega | (simp <;> omega)); (first | omega | (simp <;> omega))) | (refine q_val rfl (fun w' hb => r_loadElem1 ((S.grow hb).rdRow (D := fInt .i64) (i := 3) rfl) rfl ?_ ?_ rfl) ?_; (first | omega | (simp <;> omega)); (first | omega | (simp <;> omega))) | (refine q_val rfl (fun w' hb => r_loadElemF ((S.grow hb).rdRow (D := fGGrant) (i := 0) rfl) rfl ?_ ?_ rfl) ?_; (first | omega | (simp <;> omega)); (first | omega | (simp <;> omega)))) | (refine WP_cond rfl (fun h => ?_) (fun h => ?_) <;> (fail_if_success (have hh : true = true := h)) <;> (fail_if_success (have hh : false = false := h)) <;> (try simp only [decide_eq_true_eq, decide_eq_false_iff_not, Bool.not_eq_true', Bool.not_eq_false', Int.not_lt, Int.not_le] at h) <;> (try (exfalso; omega))))
      refine nextI.mk ⟨_, ?_, i + 1, _, ul', ⟨rfl, rfl, rfl, rfl, rfl, rfl, trivial⟩, S, by omega, rfl, st.next, el, hsum'⟩
      omega
    · repeat' (first | refine WP_seq ?_ | refine WP_region ?_ | refine wl_nil ?_ | refine then_normal ?_ | refine then_exit ?_ | refine inB_here ?_ | refine then_ret ?_ | refine WP_ret ?_ | refine WP_exit ?_ | (refine g_move ?_; refine st_move rfl ?_) | (refine g_assign ?_; refine st_assign rfl ?_) | (refine g_b_lss ?_; refine st_val rfl (r_lss rfl rfl) ?_) | (refine g_c_len ?_; refine st_val rfl (r_lenSlice rfl) ?_) | (refine WP_cond rfl (fun h => ?_) (fun h => ?_) <;> (fail_if_success (have hh : true = true := h)) <;> (fail_if_success (have hh : false = false := h)) <;> (try simp only [decide_eq_true_eq, decide_eq_false_iff_not, Bool.not_eq_true', Bool.not_eq_false', Int.not_lt, Int.not_le] at h) <;> (try (exfalso; omega))))
      exact end1 rfl rfl ⟨rfl, S.below⟩
  | true =>
    obtain ⟨X, hsX, hsub, hfew, ha⟩ := lack_some vl vu hq
    obtain ⟨hr1, hr2⟩ := sub_range hsub
    have hXs : s.length = X.length := by rw [hsX]; simp [iz]
    have hXu : X.length ≤ us.length := by simpa using hsub.length_le
    have hs0 : ∀ k : Nat, k < s.length → nth s (k : Int) = ((X.getD k 0 : Nat) : Int) := fun k hk => by rw [hsX]; exact nth_iz2 (by omega)
    have hs1 : ∀ k : Nat, k < s.length → 0 ≤ nth s (k : Int) ∧ nth s (k : Int) < us.length := fun k hk => by
      have := hr1 k (by omega)
      rw [hs0 k hk]; omega
    have hs2 : ∀ k : Nat, 0 < k → k < s.length → nth s ((k : Int) - 1) < nth s (k : Int) := fun k h0 hk => by
      have := hr2 (k - 1) (by omega)
      rw [show k - 1 + 1 = k by omega] at this
      rw [hs0 k hk, show ((k : Int) - 1) = ((k - 1 : Nat) : Int) by omega, hs0 (k - 1) (by omega)]; omega
    have hpos : 0 < s.length := by omega
    rw [asn_bad ha]
    repeat' (first | refine WP_seq ?_ | refine WP_region ?_ | refine wl_nil ?_ | refine then_normal ?_ | (refine g_move ?_; refine st_move rfl ?_) | (refine g_assign ?_; refine st_assign rfl ?_) | (refine g_extract ?_; refine st_val rfl (r_extract rfl rfl) ?_))
    refine st_callR rfl (r_call2 rfl rfl rfl) (lack_run (S.rdRow (D := fGGrant) (i := 0) rfl) (S.rdRow (D := fGUse) (i := 1) rfl) (by omega) (by omega)) ?_; rintro v w hb ⟨vS, rfl, hrow⟩; replace S := S.new hb hrow; clear hb hrow
    rw [hq1] at S
    rw [hq2]
    obtain ⟨AT, cT, hz⟩ := (S.rdRow (D := fInt .i64) (i := 3) rfl).len; subst hz
    have hS : St w0 w [rowOb fGGrant 52 (.slice AL l.length cL) l, rowOb fGUse 46 (.slice AU us.length cU) us, rowOb (fInt .i64) 3 vA [], rowOb (fInt .i64) 3 (.slice AT s.length cT) s] := by rw [asn_bad ha] at S; exact S
    clear S
    obtain ⟨AV, cV, hz⟩ := (hS.rdRow (D := fInt .i64) (i := 2) rfl).len; subst hz
    have S := hS.keep [true, true, false, true]; clear hS
    repeat' (first | refine WP_seq ?_ | refine WP_region ?_ | refine wl_nil ?_ | refine then_normal ?_ | refine WP_skip ?_ | refine WP_block ?_ | refine WP_condF rfl ?_ | (refine g_move ?_; refine st_move rfl ?_) | (refine g_assign ?_; refine st_assign rfl ?_) | (refine g_pick ?_; refine st_pickF rfl rfl ?_) | (refine g_b_eql ?_; first | refine st_val rfl (r_eql rfl rfl) ?_ | refine st_val rfl (r_eqlB rfl rfl) ?_) | (refine g_b_neq ?_; refine st_val rfl (r_neq rfl rfl) ?_) | (refine g_b_gtr ?_; refine st_val rfl (r_gtr rfl rfl) ?_) | (refine g_un ?_; refine st_val rfl (r_not rfl) ?_) | (refine g_extract ?_; refine st_val rfl (r_extract rfl rfl) ?_) | (refine g_c_len ?_; refine st_val rfl (r_lenSlice rfl) ?_) | (refine WP_cond rfl (fun h => ?_) (fun h => ?_) <;> (fail_if_success (have hh : true = true := h)) <;> (fail_if_success (have hh : false = false := h)) <;> (try simp only [decide_eq_true_eq, decide_eq_false_iff_not, Bool.not_eq_true', Bool.not_eq_false', Int.not_lt, Int.not_le] at h) <;> (try (exfalso; omega))))
    refine WP_loop (fun k σ w1 => ∃ (i : Nat), Has σ [(6, .slice AL l.length cL), (7, .slice AU us.length cU), (10, .slice AT s.length cT), (14, .int .i64 (needI l us X i)), (15, .int .i64 (i : Int))] ∧ St w0 w1 [rowOb fGGrant 52 (.slice AL l.length cL) l, rowOb fGUse 46 (.slice AU us.length cU) us, rowOb (fInt .i64) 3 (.slice AT s.length cT) s] ∧ i ≤ l.length ∧ k = l.length - i) l.length ⟨0, ⟨rfl, rfl, rfl, rfl, rfl, trivial⟩, S, by omega, by omega⟩ ?_
    clear S
    rintro k σ w1 ⟨i, hsl, S, hi1, rfl⟩
    refine WP_has hsl ?_
    have hni := needI_le vl us X i hi1
    by_cases hi : i < l.length
    · have hpi := plays_ok vl (i := (i : Int)) (by omega) (by omega)
      have hnx := needI_succ l us X i hpi.1
      repeat' (first | refine WP_seq ?_ | refine WP_region ?_ | refine wl_nil ?_ | refine then_normal ?_ | (refine g_move ?_; refine st_move rfl ?_) | (refine g_b_lss ?_; refine st_val rfl (r_lss rfl rfl) ?_) | (refine g_c_len ?_; refine st_val rfl (r_lenSlice rfl) ?_))
      refine WP_cond rfl (fun _ => ?_) (fun h => absurd (of_decide_eq_false h) (by omega))
      repeat' (first | refine WP_seq ?_ | refine WP_region ?_ | refine wl_nil ?_ | refine then_normal ?_ | refine WP_skip ?_ | refine WP_block ?_ | (refine g_assign ?_; refine st_assign rfl ?_))
      refine WP_loop (fun kk σ w1 => ∃ (k : Nat), Has σ [(6, .slice AL l.length cL), (7, .slice AU us.length cU), (10, .slice AT s.length cT), (14, .int .i64 (needI l us X i)), (15, .int .i64 (i : Int)), (16, .bool ((X.take k).any (prmN l us i))), (17, .int .i64 (k : Int))] ∧ St w0 w1 [rowOb fGGrant 52 (.slice AL l.length cL) l, rowOb fGUse 46 (.slice AU us.length cU) us, rowOb (fInt .i64) 3 (.slice AT s.length cT) s] ∧ k ≤ s.length ∧ kk = s.length - k) s.length ⟨0, ⟨rfl, rfl, rfl, rfl, rfl, rfl, rfl, trivial⟩, S, by omega, by omega⟩ ?_
      clear S
      rintro kk σ w1 ⟨k, hsl, S, hk1, rfl⟩
      refine WP_has hsl ?_
      by_cases hk : k < s.length
      · have hsk := hs1 k hk
        have hany := any_take (p := prmN l us i) (X := X) (k := k) (by omega)
        have hUn := okU_of vu _ (nth_mem (l := us) (i := nth s (k : Int)) (by omega) (by omega))
        have hper : decide ((i : Int) ∈ perI l (nth us (nth s (k : Int)))) = prmN l us i (X.getD k 0) := by
          rw [Bool.eq_iff_iff, decide_eq_true_iff, mem_perI vl hUn]
          unfold prmN
          rw [← hs0 k hk]
          constructor
          · rintro ⟨_, _, h⟩; exact h
          · intro h; exact ⟨by omega, by omega, h⟩
        have hpl : (perI l (nth us (nth s (k : Int)))).length ≤ l.length := by
          unfold perI; split
          · exact perN_len ..
          · simp
        have hlt : k = 0 ∨ nth s ((k : Int) - 1) < nth s (k : Int) := by
          by_cases e : k = 0
          · exact .inl e
          · exact .inr (hs2 k (by omega) hk)
        obtain ⟨bs, hbs⟩ : ∃ z, (X.take k).any (prmN l us i) = z := ⟨_, rfl⟩
        obtain ⟨bn, hbn⟩ : ∃ z, prmN l us i (X.getD k 0) = z := ⟨_, rfl⟩
        rw [hbn] at hper hany
        rw [hbs] at hany ⊢
        cases bs with
        | true =>
          repeat' (first | refine WP_seq ?_ | refine WP_region ?_ | refine wl_nil ?_ | refine then_normal ?_ | (refine g_move ?_; refine st_move rfl ?_) | (refine g_b_lss ?_; refine st_val rfl (r_lss rfl rfl) ?_) | (refine g_c_len ?_; refine st_val rfl (r_lenSlice rfl) ?_))
          refine WP_cond rfl (fun _ => ?_) (fun h => absurd (of_decide_eq_false h) (by omega))
          repeat' (first | refine WP_seq ?_ | refine WP_region ?_ | refine wl_nil ?_ | refine then_normal ?_ | refine inB_normal ?_ | refine WP_skip ?_ | refine WP_block ?_ | refine WP_condF rfl ?_ | refine WP_draw (by kernel_rfl) (by kernel_rfl) ?_ | (refine ql_nil ?_; intro w hb; replace S := S.grow hb; clear hb) | (refine g_guard ?_; refine st_off rfl ?_) | (refine g_move ?_; refine st_move rfl ?_) | (refine g_assign ?_; refine st_assign rfl ?_) | (refine g_pick ?_; refine st_pickT rfl rfl ?_) | (refine g_b_add ?_; (refine st_val rfl (r_addN rfl rfl ?_ ?_) ?_; (first | omega | (simp <;> omega)); (first | omega | (simp <;> omega)))) | (refine gq_guard ?_; refine q_off rfl ?_) | (refine gq_move ?_; refine q_move rfl ?_) | (refine gq_pick ?_; first | refine q_pickT rfl rfl ?_ | refine q_pickF rfl rfl ?_) | (refine gq_b_sub ?_; (refine q_val rfl (fun w' hb => r_subN rfl rfl ?_ ?_) ?_; (first | omega | (simp <;> omega)); (first | omega | (simp <;> omega)))) | (refine gq_b_lss ?_; refine q_val rfl (fun w' hb => r_lss rfl rfl) ?_) | (refine gq_b_leq ?_; refine q_val rfl (fun w' hb => r_leq rfl rfl) ?_) | (refine gq_b_gtr ?_; refine q_val rfl (fun w' hb => r_gtr rfl rfl) ?_) | (refine gq_b_geq ?_; refine q_val rfl (fun w' hb => r_geq rfl rfl) ?_) | (refine gq_c_len ?_; refine q_val rfl (fun w' hb => r_lenSlice rfl) ?_) | (refine gq_indexAddr ?_; (refine q_val rfl (fun w' hb => r_indexAddr ((S.grow hb).rdRow (D := fInt .i64) (i := 2) rfl) rfl rfl ?_ ?_) ?_; (first | omega | (simp <;> omega)); (first | omega | (simp <;> omega)))) | (refine gq_load ?_; (refine q_val rfl (fun w' hb => r_loadElem1 ((S.grow hb).rdRow (D := fInt .i64) (i := 2) rfl) rfl ?_ ?_ rfl) ?_; (first | omega | (simp <;> omega)); (first | omega | (simp <;> omega)))) | (refine ql_split rfl rfl (fun h => ?_) (fun h => ?_) <;> (fail_if_success (have hh : true = true := h)) <;> (fail_if_success (have hh : false = false := h)) <;> (try simp only [decide_eq_true_eq, decide_eq_false_iff_not, Bool.not_eq_true', Bool.not_eq_false', Int.not_lt, Int.not_le] at h) <;> (try (exfalso; omega))) | (refine WP_cond rfl (fun h => ?_) (fun h => ?_) <;> (fail_if_success (have hh : true = true := h)) <;> (fail_if_success (have hh : false = false := h)) <;> (try simp only [decide_eq_true_eq, decide_eq_false_iff_not, Bool.not_eq_true', Bool.not_eq_false', Int.not_lt, Int.not_le] at h) <;> (try (exfalso; omega))))
          all_goals
            refine nextI.mk ⟨_, ?_, k + 1, ⟨rfl, rfl, rfl, rfl, rfl, by rw [hany]; rfl, rfl, trivial⟩, S, by omega, rfl⟩
            omega
        | false =>
          repeat' (first | refine WP_seq ?_ | refine WP_region ?_ | refine wl_nil ?_ | refine then_normal ?_ | (refine g_move ?_; refine st_move rfl ?_) | (refine g_b_lss ?_; refine st_val rfl (r_lss rfl rfl) ?_) | (refine g_c_len ?_; refine st_val rfl (r_lenSlice rfl) ?_))
          refine WP_cond rfl (fun _ => ?_) (fun h => absurd (of_decide_eq_false h) (by omega))
          repeat' (first | refine WP_seq ?_ | refine WP_region ?_ | refine then_normal ?_ | refine WP_skip ?_ | refine WP_block ?_ | refine WP_condF rfl ?_ | refine WP_draw (by kernel_rfl) (by kernel_rfl) ?_ | (refine ql_nil ?_; intro w hb; replace S := S.grow hb; clear hb) | (refine g_move ?_; refine st_move rfl ?_) | (refine g_indexAddr ?_; first | (refine st_val rfl (r_indexAddr (S.rdRow (D := fInt .i64) (i := 2) rfl) rfl rfl ?_ ?_) ?_; (first | omega | (simp <;> omega)); (first | omega | (simp <;> omega))) | (refine st_val rfl (r_indexAddr (S.rdRow (D := fGUse) (i := 1) rfl) rfl rfl ?_ ?_) ?_; (first | omega | (simp <;> omega)); (first | omega | (simp <;> omega)))) | (refine g_load ?_; first | (refine st_val rfl (r_loadElem1 (S.rdRow (D := fInt .i64) (i := 2) rfl) rfl ?_ ?_ rfl) ?_; (first | omega | (simp <;> omega)); (first | omega | (simp <;> omega))) | (refine st_val rfl (r_loadElem (S.rdRow (D := fGUse) (i := 1) rfl) rfl ?_ ?_) ?_; (first | omega | (simp <;> omega)); (first | omega | (simp <;> omega)))) | (refine gq_guard ?_; refine q_off rfl ?_) | (refine gq_move ?_; refine q_move rfl ?_) | (refine gq_pick ?_; first | refine q_pickT rfl rfl ?_ | refine q_pickF rfl rfl ?_) | (refine gq_b_sub ?_; (refine q_val rfl (fun w' hb => r_subN rfl rfl ?_ ?_) ?_; (first | omega | (simp <;> omega)); (first | omega | (simp <;> omega)))) | (refine gq_b_lss ?_; refine q_val rfl (fun w' hb => r_lss rfl rfl) ?_) | (refine gq_b_leq ?_; refine q_val rfl (fun w' hb => r_leq rfl rfl) ?_) | (refine gq_b_gtr ?_; refine q_val rfl (fun w' hb => r_gtr rfl rfl) ?_) | (refine gq_b_geq ?_; refine q_val rfl (fun w' hb => r_geq rfl rfl) ?_) | (refine gq_c_len ?_; refine q_val rfl (fun w' hb => r_lenSlice rfl) ?_) | (refine gq_indexAddr ?_; (refine q_val rfl (fun w' hb => r_indexAddr ((S.grow hb).rdRow (D := fInt .i64) (i := 2) rfl) rfl rfl ?_ ?_) ?_; (first | omega | (simp <;> omega)); (first | omega | (simp <;> omega)))) | (refine gq_load ?_; (refine q_val rfl (fun w' hb => r_loadElem1 ((S.grow hb).rdRow (D := fInt .i64) (i := 2) rfl) rfl ?_ ?_ rfl) ?_; (first | omega | (simp <;> omega)); (first | omega | (simp <;> omega)))) | (refine ql_split rfl rfl (fun h => ?_) (fun h => ?_) <;> (fail_if_success (have hh : true = true := h)) <;> (fail_if_success (have hh : false = false := h)) <;> (try simp only [decide_eq_true_eq, decide_eq_false_iff_not, Bool.not_eq_true', Bool.not_eq_false', Int.not_lt, Int.not_le] at h) <;> (try (exfalso; omega))) | (refine WP_cond rfl (fun h => ?_) (fun h => ?_) <;> (fail_if_success (have hh : true = true := h)) <;> (fail_if_success (have hh : false = false := h)) <;> (try simp only [decide_eq_true_eq, decide_eq_false_iff_not, Bool.not_eq_true', Bool.not_eq_false', Int.not_lt, Int.not_le] at h) <;> (try (exfalso; omega))))
          all_goals
            refine st_callR rfl (r_call2 rfl rfl rfl) (permits_run (u := nth us (nth s (k : Int))) (S.rdRow (D := fGGrant) (i := 0) rfl) (by omega)) ?_; rintro vP w hb hrow; replace S := S.new hb hrow; clear hb hrow
            repeat' (first | refine WP_region ?_ | refine wl_nil ?_ | refine then_normal ?_ | refine inB_normal ?_ | (refine g_move ?_; refine st_move rfl ?_) | (refine g_assign ?_; refine st_assign rfl ?_) | (refine g_pick ?_; refine st_pickF rfl rfl ?_) | (refine g_b_add ?_; (refine st_val rfl (r_addN rfl rfl ?_ ?_) ?_; (first | omega | (simp <;> omega)); (first | omega | (simp <;> omega)))) | (refine g_callV ?_; (refine st_callV rfl (r_call2 rfl rfl rfl) (has_is (S.rdRow (D := fInt .i64) (i := 3) rfl) (by omega) hper) ?_; intro w hb; replace S := S.grow hb; clear hb)))
            refine nextI.mk ⟨_, ?_, k + 1, ⟨rfl, rfl, rfl, rfl, rfl, by rw [hany]; rfl, rfl, trivial⟩, S.keep [true, true, true, false], by omega, rfl⟩
            omega
      · have ek : k = s.length := by omega
        subst ek
        have et : X.take s.length = X := List.take_of_length_le (by omega)
        rw [et]
        obtain ⟨bs, hbs⟩ : ∃ z, X.any (prmN l us i) = z := ⟨_, rfl⟩
        rw [hbs] at hnx ⊢
        cases bs with
        | true =>
          rw [if_pos rfl] at hnx
          repeat' (first | refine WP_seq ?_ | refine WP_region ?_ | refine wl_nil ?_ | refine then_normal ?_ | refine inB_normal ?_ | refine then_exit ?_ | refine inB_here ?_ | refine WP_exit ?_ | refine WP_condT rfl ?_ | (refine g_move ?_; refine st_move rfl ?_) | (refine g_assign ?_; refine st_assign rfl ?_) | (refine g_b_add ?_; (refine st_val rfl (r_addN rfl rfl ?_ ?_) ?_; (first | omega | (simp <;> omega)); (first | omega | (simp <;> omega)))) | (refine g_b_lss ?_; refine st_val rfl (r_lss rfl rfl) ?_) | (refine g_c_len ?_; refine st_val rfl (r_lenSlice rfl) ?_) | (refine g_fieldAddr ?_; refine st_val rfl (r_fieldAddr rfl) ?_) | (refine g_indexAddr ?_; (refine st_val rfl (r_indexAddr (S.rdRow (D := fGGrant) (i := 0) rfl) rfl rfl ?_ ?_) ?_; (first | omega | (simp <;> omega)); (first | omega | (simp <;> omega)))) | (refine g_load ?_; (refine st_val rfl (r_loadElemF (S.rdRow (D := fGGrant) (i := 0) rfl) rfl ?_ ?_ rfl) ?_; (first | omega | (simp <;> omega)); (first | omega | (simp <;> omega)))) | (refine WP_cond rfl (fun h => ?_) (fun h => ?_) <;> (fail_if_success (have hh : true = true := h)) <;> (fail_if_success (have hh : false = false := h)) <;> (try simp only [decide_eq_true_eq, decide_eq_false_iff_not, Bool.not_eq_true', Bool.not_eq_false', Int.not_lt, Int.not_le] at h) <;> (try (exfalso; omega))))
          refine nextI.mk ⟨_, ?_, i + 1, ⟨rfl, rfl, rfl, by rw [hnx]; rfl, rfl, trivial⟩, S, by omega, rfl⟩
          omega
        | false =>
          rw [if_neg (by decide)] at hnx
          repeat' (first | refine WP_seq ?_ | refine WP_region ?_ | refine wl_nil ?_ | refine then_normal ?_ | refine inB_normal ?_ | refine then_exit ?_ | refine inB_here ?_ | refine WP_skip ?_ | refine WP_exit ?_ | refine WP_condF rfl ?_ | (refine g_move ?_; refine st_move rfl ?_) | (refine g_assign ?_; refine st_assign rfl ?_) | (refine g_b_add ?_; (refine st_val rfl (r_addN rfl rfl ?_ ?_) ?_; (first | omega | (simp <;> omega)); (first | omega | (simp <;> omega)))) | (refine g_b_lss ?_; refine st_val rfl (r_lss rfl rfl) ?_) | (refine g_c_len ?_; refine st_val rfl (r_lenSlice rfl) ?_) | (refine WP_cond rfl (fun h => ?_) (fun h => ?_) <;> (fail_if_success (have hh : true = true := h)) <;> (fail_if_success (have hh : false = false := h)) <;> (try simp only [decide_eq_true_eq, decide_eq_false_iff_not, Bool.not_eq_true', Bool.not_eq_false', Int.not_lt, Int.not_le] at h) <;> (try (exfalso; omega))))
          refine nextI.mk ⟨_, ?_, i + 1, ⟨rfl, rfl, rfl, by rw [hnx]; rfl, rfl, trivial⟩, S, by omega, rfl⟩
          omega
    · have ei : i = l.length := by omega
      subst ei
      have hlt : needI l us X l.length < s.length := by unfold needI; unfold need at hfew; omega
      repeat' (first | refine WP_seq ?_ | refine WP_region ?_ | refine wl_nil ?_ | refine then_normal ?_ | refine then_exit ?_ | refine inB_here ?_ | refine WP_ret ?_ | refine WP_exit ?_ | (refine g_move ?_; refine st_move rfl ?_) | (refine g_assign ?_; refine st_assign rfl ?_) | (refine g_b_lss ?_; refine st_val rfl (r_lss rfl rfl) ?_) | (refine g_c_len ?_; refine st_val rfl (r_lenSlice rfl) ?_) | (refine WP_cond rfl (fun h => ?_) (fun h => ?_) <;> (fail_if_success (have hh : true = true := h)) <;> (fail_if_success (have hh : false = false := h)) <;> (try simp only [decide_eq_true_eq, decide_eq_false_iff_not, Bool.not_eq_true', Bool.not_eq_false', Int.not_lt, Int.not_le] at h) <;> (try (exfalso; omega))))
      exact end1 rfl rfl ⟨rb (by simpa using hlt), S.below⟩
end Go.Proofs.Ytfdjnadopniaeaa
