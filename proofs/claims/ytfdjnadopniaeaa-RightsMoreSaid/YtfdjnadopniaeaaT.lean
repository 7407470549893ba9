import Derived.Test.YtfdjnadopniaeaaR
namespace Go.Proofs.Ytfdjnadopniaeaa
open Go Go.Gx Go.RowKit
open Kuhn
set_option linter.unusedVariables false
set_option linter.unusedSimpArgs false

theorem plsN_set (ps : List Int) (i : Int) (h0 : 0 ≤ i) (h : i < ps.length) : plsN (ps.set i.toNat (nth ps i - 1)) = dec (plsN ps) i.toNat := by
  funext k
  unfold plsN dec
  rw [nth_set ps i _ h0 h _ (by omega)]
  by_cases e : (k : Int) = i
  · subst e
    rw [if_pos rfl, if_pos (by omega)]
    show (nth ps (k : Int) - 1).toNat = (nth ps (k : Int)).toNat - 1
    omega
  · rw [if_neg e, if_neg (by omega)]
theorem ps_set {ps : List Int} {i p : Int} (hp : ∀ p ∈ ps, 0 ≤ p ∧ p ≤ 100) (h1 : 0 ≤ p) (h2 : p ≤ 100) : ∀ q ∈ ps.set i.toNat p, 0 ≤ q ∧ q ≤ 100 := fun q hq => by
  rcases List.mem_or_eq_of_mem_set hq with hq | rfl
  · exact hp q hq
  · exact ⟨h1, h2⟩
theorem ps_back (ps : List Int) (i p : Int) (h0 : 0 ≤ i) (h : i < ps.length) : (ps.set i.toNat p).set i.toNat (nth ps i) = ps := by
  have h' : i.toNat < ps.length := by omega
  rw [List.set_set]
  unfold nth
  simp [List.getD, List.getElem?_eq_getElem h']
theorem enough_is {l : List GGrant} {us : List GUse} {ps : List Int} {vl vu vp : Value} {b : Bool} {w0 : World} (hr : Rd fGGrant.ty w0 vl l) (hr2 : Rd fGUse.ty w0 vu us) (hr3 : Rd (fInt .i64).ty w0 vp ps) (hl : validG l = true) (hu : validU us = true) (hps : ps.length = l.length) (hp : ∀ p ∈ ps, 0 ≤ p ∧ p ≤ 100) (h : A (prmN l us) (plsN ps) l.length us.length = b) :
    CallsV Try.prog 42 #[vl, vp, vu] w0 (.bool b) := by rw [← h]; exact enough_spec hr hr2 hr3 hl hu hps hp
theorem plsN_playsL (l : List GGrant) : plsN (playsL l) = plyN l := by
  funext k
  unfold plsN plyN playsL nth
  simp only [List.getD, List.getElem?_map, Int.toNat_natCast]
  cases l[k]? <;> rfl
theorem playsL_ok {l : List GGrant} (hl : validG l = true) : ∀ p ∈ playsL l, 0 ≤ p ∧ p ≤ 100 := fun p hp => by
  obtain ⟨g, hg, rfl⟩ := List.mem_map.1 hp
  have := ok_of hl g hg
  simp only [okG, decide_eq_true_eq] at this
  omega
set_option maxRecDepth 20000 in
set_option maxHeartbeats 16000000 in
theorem assignR_run {l : List GGrant} {us : List GUse} {vl vu : Value} {w0 : World} (hr : Rd fGGrant.ty w0 vl l) (hr2 : Rd fGUse.ty w0 vu us) (hll : l.length ≤ 1000) (hul : us.length ≤ 1000000) :
    CallsR Try.prog 22 #[vl, vu] w0 fun v' w' => ∃ v1, v' = .tuple #[v1, .int .i64 (asnI l us).2] ∧ NewRow (fInt .i64) 3 w0 w' v1 (asnI l us).1 := by
  have S := St.start w0
  have hl2 : l.length ≤ 1000000000 := by omega
  have hu2 : us.length ≤ 1000000000 := by omega
  obtain ⟨A0, c, rfl⟩ := hr.len
  obtain ⟨A2, cu, rfl⟩ := hr2.len
  refine CallsR.mk ?_
  refine calls_enter Try.func22 rfl (by intro _ h; first | exact nomatch h.1 | (obtain ⟨_, h, _⟩ := h; exact nomatch h)) Try.ntmps22 rfl ?_
  by_cases hl : validG l = true
  · by_cases hu : validU us = true
    · have hl12 : l.length ≤ 12 := by unfold validG at hl; simp at hl; omega
      have hu10 : us.length ≤ 10 := by unfold validU at hu; simp at hu; omega
      repeat' (first | refine WP_seq ?_ | refine WP_region ?_ | refine wl_nil ?_ | refine then_normal ?_ | refine WP_skip ?_ | refine WP_condF rfl ?_ | (refine g_move ?_; refine st_move rfl ?_) | (refine g_assign ?_; refine st_assign rfl ?_) | (refine g_pick ?_; refine st_pickF rfl rfl ?_) | (refine g_un ?_; refine st_val rfl (r_not rfl) ?_) | (refine g_callV ?_; first | (refine st_callV rfl (r_call1 rfl rfl) (validR_is (hr.mono S.below) hl2 hl) ?_; intro w hb; replace S := S.grow hb; clear hb) | (refine st_callV rfl (r_call1 rfl rfl) (validUsesR_is (hr2.mono S.below) hu2 hu) ?_; intro w hb; replace S := S.grow hb; clear hb)))
      refine st_callR rfl (r_call1 rfl rfl) (plays_spec (hr.mono S.below) hll) ?_
      rintro vp w hb hrow; replace S := S.new hb hrow; clear hb hrow
      have hAe : A (prmN l us) (plsN (playsL l)) l.length us.length = asgL l us := by rw [plsN_playsL]; rfl
      by_cases ha : asgL l us = true
      · rw [ha] at hAe
        have hasn : asnI l us = (iz (greedy l.length us.length (prmN l us) (plyN l)), 0) := if_pos ⟨hl, hu, ha⟩
        rw [hasn]
        repeat' (first | refine WP_seq ?_ | refine WP_region ?_ | refine wl_nil ?_ | refine then_normal ?_ | refine WP_skip ?_ | refine WP_block ?_ | refine WP_condF rfl ?_ | (refine g_move ?_; refine st_move rfl ?_) | (refine g_assign ?_; refine st_assign rfl ?_) | (refine g_un ?_; refine st_val rfl (r_not rfl) ?_) | (refine g_callV ?_; (refine st_callV rfl (r_call3 rfl rfl rfl rfl) (enough_is (hr.mono S.below) (hr2.mono S.below) (S.rdRow (D := fInt .i64) (i := 0) rfl) hl hu (by simp [playsL]) (playsL_ok hl) hAe) ?_; intro w hb; replace S := S.grow hb; clear hb)))
        refine WP_loop (fun k σ w1 => ∃ (i : Int) (vo vp : Value) (ps : List Int) (ks : List Nat), Has σ [(0, .slice A0 l.length c), (1, .slice A2 us.length cu), (6, vp), (7, vo), (8, .int .i64 i)] ∧ St w0 w1 [rowOb (fInt .i64) 3 vp ps, rowOb (fInt .i64) 3 vo (iz ks)] ∧ 0 ≤ i ∧ i ≤ us.length ∧ k = us.length - i.toNat ∧ (∀ p ∈ ps, 0 ≤ p ∧ p ≤ 100) ∧ ps.length = l.length ∧ ks.length = i.toNat ∧
          A (prmN l (us.drop i.toNat)) (plsN ps) l.length (us.length - i.toNat) = true ∧ ks ++ greedy l.length (us.length - i.toNat) (prmN l (us.drop i.toNat)) (plsN ps) = greedy l.length us.length (prmN l us) (plyN l)) us.length
          ⟨0, _, _, playsL l, [], ⟨rfl, rfl, rfl, rfl, rfl, trivial⟩, S.nilRow (fInt .i64) 3, by omega, by omega, by omega, playsL_ok hl, by simp [playsL], rfl, hAe, by rw [plsN_playsL]; rfl⟩ ?_
        clear S hasn
        rintro k σ w1 ⟨i, vo, vp, ps, ks, hsl, S, hi0, hi1, rfl, hpb, hpl, hkl, hA, hgr⟩
        refine WP_has hsl ?_
        by_cases hi : i < us.length
        · obtain ⟨n, hn⟩ : ∃ n, us.length - (i + 1).toNat = n := ⟨_, rfl⟩
          have hn1 : us.length - i.toNat = n + 1 := by omega
          rw [hn1] at hA hgr
          obtain ⟨k0, hgs, hk0, hpy, hpm, hA2, hbef⟩ := greedy_step hA
          rw [hgs] at hgr
          have hU := okU_of hu _ (nth_mem hi0 hi)
          have hvu' := validU_drop hu (i + 1).toNat
          have hdl : (us.drop (i + 1).toNat).length = n := by rw [List.length_drop]; exact hn
          repeat' (first | refine WP_seq ?_ | refine WP_region ?_ | refine wl_nil ?_ | refine then_normal ?_ | (refine g_move ?_; refine st_move rfl ?_) | (refine g_b_lss ?_; refine st_val rfl (r_lss rfl rfl) ?_) | (refine g_c_len ?_; refine st_val rfl (r_lenSlice rfl) ?_))
          refine WP_cond rfl (fun _ => ?_) (fun h => absurd (of_decide_eq_false h) (by omega))
          repeat' (first | refine WP_seq ?_ | refine WP_region ?_ | refine wl_nil ?_ | refine then_normal ?_ | refine WP_skip ?_ | refine WP_block ?_ | (refine g_assign ?_; refine st_assign rfl ?_))
          refine WP_loop (fun kk σ w1 => ∃ (k : Int) (vo : Value) (ps' : List Int) (ks' : List Nat), Has σ [(0, .slice A0 l.length c), (1, .slice A2 us.length cu), (6, vp), (7, vo), (8, .int .i64 i), (9, .int .i64 k)] ∧ St w0 w1 [rowOb (fInt .i64) 3 vp ps', rowOb (fInt .i64) 3 vo (iz ks')] ∧ 0 ≤ k ∧ kk = l.length + 1 - k.toNat ∧
            ((k ≤ k0 ∧ ps' = ps ∧ ks' = ks) ∨ (k = k0 + 1 ∧ ps' = ps.set k0 (nth ps (k0 : Int) - 1) ∧ ks' = ks ++ [k0]))) (l.length + 1) ⟨0, _, _, _, ⟨rfl, rfl, rfl, rfl, rfl, rfl, trivial⟩, S, by omega, by omega, .inl ⟨by omega, rfl, rfl⟩⟩ ?_
          clear S
          rintro kk σ w1 ⟨k, vo, ps', ks', hsl, S, hk0', rfl, hor⟩
          obtain ⟨Ao, co, rfl⟩ := (S.rdRow (D := fInt .i64) (i := 1) rfl).len
          refine WP_has hsl ?_
          rcases hor with ⟨hk1, rfl, rfl⟩ | ⟨hk1, hps', hks'⟩
          · have hkm : k < l.length := by omega
            have hkp : k < ps'.length := by omega
            have hG := ok_of hl _ (nth_mem hk0' hkm)
            have hP := hpb _ (nth_mem (l := ps') hk0' hkp)
            have hpm0 := prm0 l us hi0 hk0'
            have hizl : ((iz ks').length : Int) = i := by simp; omega
            by_cases p0 : nth ps' k = 0
            · have hne : k ≠ k0 := fun e => by unfold plsN at hpy; rw [← e, p0] at hpy; exact absurd hpy (by decide)
              repeat' (first | refine WP_seq ?_ | refine WP_region ?_ | refine wl_nil ?_ | refine then_normal ?_ | refine then_exit ?_ | refine inB_here ?_ | refine WP_skip ?_ | refine WP_exit ?_ | refine WP_block ?_ | refine WP_condT rfl ?_ | refine WP_draw (by kernel_rfl) (by kernel_rfl) ?_ | (refine ql_nil ?_; intro w hb; replace S := S.grow hb; clear hb) | (refine g_move ?_; refine st_move rfl ?_) | (refine g_assign ?_; refine st_assign rfl ?_) | (refine g_pick ?_; refine st_pickT rfl rfl ?_) | (refine g_b_add ?_; (refine st_val rfl (r_addN rfl rfl ?_ ?_) ?_; (first | omega | (simp <;> omega)); (first | omega | (simp <;> omega)))) | (refine g_b_eql ?_; refine st_val rfl (r_eql rfl rfl) ?_) | (refine g_b_lss ?_; refine st_val rfl (r_lss rfl rfl) ?_) | (refine g_c_len ?_; refine st_val rfl (r_lenSlice rfl) ?_) | (refine gq_guard ?_; refine q_off rfl ?_) | (refine gq_move ?_; refine q_move rfl ?_) | (refine gq_pick ?_; refine q_pickT rfl rfl ?_) | (refine gq_b_eql ?_; refine q_val rfl (fun w' hb => r_eql rfl rfl) ?_) | (refine gq_indexAddr ?_; (refine q_val rfl (fun w' hb => r_indexAddr ((S.grow hb).rdRow (D := fInt .i64) (i := 0) rfl) rfl rfl ?_ ?_) ?_; (first | omega | (simp <;> omega)); (first | omega | (simp <;> omega)))) | (refine gq_load ?_; (refine q_val rfl (fun w' hb => r_loadElem1 ((S.grow hb).rdRow (D := fInt .i64) (i := 0) rfl) rfl ?_ ?_ rfl) ?_; (first | omega | (simp <;> omega)); (first | omega | (simp <;> omega)))) | (refine wl_split rfl rfl (fun h => ?_) (fun h => ?_) <;> (fail_if_success (have hh : true = true := h)) <;> (fail_if_success (have hh : false = false := h)) <;> (try simp only [decide_eq_true_eq, decide_eq_false_iff_not, Bool.not_eq_true', Bool.not_eq_false', Int.not_lt, Int.not_le] at h) <;> (try (exfalso; omega))) | (refine ql_split rfl rfl (fun h => ?_) (fun h => ?_) <;> (fail_if_success (have hh : true = true := h)) <;> (fail_if_success (have hh : false = false := h)) <;> (try simp only [decide_eq_true_eq, decide_eq_false_iff_not, Bool.not_eq_true', Bool.not_eq_false', Int.not_lt, Int.not_le] at h) <;> (try (exfalso; omega))) | (refine WP_cond rfl (fun h => ?_) (fun h => ?_) <;> (fail_if_success (have hh : true = true := h)) <;> (fail_if_success (have hh : false = false := h)) <;> (try simp only [decide_eq_true_eq, decide_eq_false_iff_not, Bool.not_eq_true', Bool.not_eq_false', Int.not_lt, Int.not_le] at h) <;> (try (exfalso; omega))))
              refine nextI.mk ⟨_, ?_, k + 1, _, ps', ks', ⟨rfl, rfl, rfl, rfl, rfl, rfl, trivial⟩, S, by omega, rfl, .inl ⟨by omega, rfl, rfl⟩⟩
              omega
            · by_cases hpm2 : permG (nth l k) (nth us i) = true
              · have hst := ps_set (i := k) hpb (p := nth ps' k - 1) (by omega) (by omega)
                have hpn : A (prmN l (us.drop (i + 1).toNat)) (plsN (ps'.set k.toNat (nth ps' k - 1))) l.length (us.drop (i + 1).toNat).length = A (shift (prmN l (us.drop i.toNat))) (dec (plsN ps') k.toNat) l.length n := by
                  rw [prmN_drop _ _ _ hi0, plsN_set _ _ hk0' hkp, hdl]
                by_cases hk : k = k0
                · have ek : k.toNat = k0 := by omega
                  rw [ek] at hpn
                  have hpn1 := hpn.trans hA2
                  rw [← ek] at hpn1
                  repeat' (first | refine WP_seq ?_ | refine WP_region ?_ | refine wl_nil ?_ | refine then_normal ?_ | refine WP_skip ?_ | refine WP_block ?_ | refine WP_condF rfl ?_ | refine WP_draw (by kernel_rfl) (by kernel_rfl) ?_ | (refine ql_nil ?_; intro w hb; replace S := S.grow hb; clear hb) | (refine g_move ?_; refine st_move rfl ?_) | (refine g_pick ?_; refine st_pickT rfl rfl ?_) | (refine g_b_add ?_; (refine st_val rfl (r_addN rfl rfl ?_ ?_) ?_; (first | omega | (simp <;> omega)); (first | omega | (simp <;> omega)))) | (refine g_b_sub ?_; (refine st_val rfl (r_subN rfl rfl ?_ ?_) ?_; (first | omega | (simp <;> omega)); (first | omega | (simp <;> omega)))) | (refine g_b_eql ?_; refine st_val rfl (r_eql rfl rfl) ?_) | (refine g_b_lss ?_; refine st_val rfl (r_lss rfl rfl) ?_) | (refine g_c_len ?_; refine st_val rfl (r_lenSlice rfl) ?_) | (refine g_indexAddr ?_; (refine st_val rfl (r_indexAddr (S.rdRow (D := fInt .i64) (i := 0) rfl) rfl rfl ?_ ?_) ?_; (first | omega | (simp <;> omega)); (first | omega | (simp <;> omega)))) | (refine g_load ?_; (refine st_val rfl (r_loadElem1 (S.rdRow (D := fInt .i64) (i := 0) rfl) rfl ?_ ?_ rfl) ?_; (first | omega | (simp <;> omega)); (first | omega | (simp <;> omega)))) | (refine gq_move ?_; refine q_move rfl ?_) | (refine gq_pick ?_; refine q_pickF rfl rfl ?_) | (refine gq_b_eql ?_; refine q_val rfl (fun w' hb => r_eql rfl rfl) ?_) | (refine gq_un ?_; refine q_val rfl (fun w' hb => r_not rfl) ?_) | (refine gq_indexAddr ?_; first | (refine q_val rfl (fun w' hb => r_indexAddr (hr.mono (S.grow hb).below) rfl rfl ?_ ?_) ?_; (first | omega | (simp <;> omega)); (first | omega | (simp <;> omega))) | (refine q_val rfl (fun w' hb => r_indexAddr (hr2.mono (S.grow hb).below) rfl rfl ?_ ?_) ?_; (first | omega | (simp <;> omega)); (first | omega | (simp <;> omega))) | (refine q_val rfl (fun w' hb => r_indexAddr ((S.grow hb).rdRow (D := fInt .i64) (i := 0) rfl) rfl rfl ?_ ?_) ?_; (first | omega | (simp <;> omega)); (first | omega | (simp <;> omega)))) | (refine gq_load ?_; first | (refine q_val rfl (fun w' hb => r_loadElem (hr.mono (S.grow hb).below) rfl ?_ ?_) ?_; (first | omega | (simp <;> omega)); (first | omega | (simp <;> omega))) | (refine q_val rfl (fun w' hb => r_loadElem (hr2.mono (S.grow hb).below) rfl ?_ ?_) ?_; (first | omega | (simp <;> omega)); (first | omega | (simp <;> omega))) | (refine q_val rfl (fun w' hb => r_loadElem1 ((S.grow hb).rdRow (D := fInt .i64) (i := 0) rfl) rfl ?_ ?_ rfl) ?_; (first | omega | (simp <;> omega)); (first | omega | (simp <;> omega)))) | (refine gq_callV ?_; refine q_callV rfl (fun w' hb => r_call2 rfl rfl rfl) (fun w' hb => permitted_is hG hU hpm2) ?_) | (refine g_store ?_; refine st_skipE rfl (r_storeElem (i := 0) (D := fInt .i64) S rfl rfl rfl rfl (fun c hc => by cases List.mem_singleton.1 hc; rfl) (by first | omega | (simp; omega)) (by first | omega | (simp; omega))) ?_; intro w S'; replace S := S'; clear S') | (refine wl_split rfl rfl (fun h => ?_) (fun h => ?_) <;> (fail_if_success (have hh : true = true := h)) <;> (fail_if_success (have hh : false = false := h)) <;> (try simp only [decide_eq_true_eq, decide_eq_false_iff_not, Bool.not_eq_true', Bool.not_eq_false', Int.not_lt, Int.not_le] at h) <;> (try (exfalso; omega))) | (refine ql_split rfl rfl (fun h => ?_) (fun h => ?_) <;> (fail_if_success (have hh : true = true := h)) <;> (fail_if_success (have hh : false = false := h)) <;> (try simp only [decide_eq_true_eq, decide_eq_false_iff_not, Bool.not_eq_true', Bool.not_eq_false', Int.not_lt, Int.not_le] at h) <;> (try (exfalso; omega))) | (refine WP_cond rfl (fun h => ?_) (fun h => ?_) <;> (fail_if_success (have hh : true = true := h)) <;> (fail_if_success (have hh : false = false := h)) <;> (try simp only [decide_eq_true_eq, decide_eq_false_iff_not, Bool.not_eq_true', Bool.not_eq_false', Int.not_lt, Int.not_le] at h) <;> (try (exfalso; omega))))
                  refine st_valE rfl (r_sliceLoE (hr2.mono S.below) rfl rfl (by omega) (by omega)) ?_
                  rintro vs' _ ⟨rfl, hrs⟩
                  replace S : St w0 _ [rowOb (fInt .i64) 3 vp (ps'.set k.toNat (nth ps' k - 1)), rowOb (fInt .i64) 3 _ (iz ks')] := S
                  repeat' (first | refine WP_region ?_ | refine wl_nil ?_ | refine then_normal ?_ | refine WP_condT rfl ?_ | (refine g_move ?_; refine st_move rfl ?_) | (refine g_callV ?_; (refine st_callV rfl (r_call3 rfl rfl rfl rfl) (enough_is (hr.mono S.below) hrs (S.rdRow (D := fInt .i64) (i := 0) rfl) hl hvu' (by simp [hpl]) hst hpn1) ?_; intro w hb; replace S := S.grow hb; clear hb)))
                  refine st_valE rfl (r_litF (D := fInt .i64) [k] (Value.int .i64) S rfl rfl (fun _ => rfl) rfl (show 0 < 1 * 1 by decide) (show 1 * 1 ≤ 16777216 by decide)) ?_
                  rintro _ w ⟨bl, rfl, -, -, S'⟩; replace S := S'; clear S'
                  refine st_valE rfl (r_appendRd (D := fInt .i64) (i := 1) S rfl (S.rdRow (D := fInt .i64) (i := 2) rfl) rfl rfl rfl (by decide) oneI (by simp; omega) (by simp; omega)) ?_
                  rintro va' w ⟨-, S'⟩; replace S := S'; clear S'
                  repeat' (first | refine WP_region ?_ | refine wl_nil ?_ | refine then_normal ?_ | refine inB_normal ?_ | (refine g_move ?_; refine st_move rfl ?_) | (refine g_assign ?_; refine st_assign rfl ?_) | (refine g_b_add ?_; (refine st_val rfl (r_addN rfl rfl ?_ ?_) ?_; (first | omega | (simp <;> omega)); (first | omega | (simp <;> omega)))))
                  have e5 : iz ks' ++ [k] = iz (ks' ++ [k0]) := by rw [hk]; exact iz_app _ _
                  have S2 : St w0 _ [rowOb (fInt .i64) 3 vp (ps'.set k.toNat (nth ps' k - 1)), rowOb (fInt .i64) 3 va' (iz ks' ++ [k])] := S.keep [true, true, false]
                  rw [e5, ek, hk] at S2
                  refine nextI.mk ⟨_, ?_, k + 1, _, _, _, ⟨rfl, rfl, rfl, rfl, rfl, rfl, trivial⟩, S2, by omega, rfl, .inr ⟨by omega, rfl, rfl⟩⟩
                  omega
                · have hob := hbef k.toNat (by omega)
                  have hA3 : A (shift (prmN l (us.drop i.toNat))) (dec (plsN ps') k.toNat) l.length n = false := by
                    unfold okK at hob
                    rw [hpm0, hpm2, decide_eq_true (by unfold plsN; rw [Int.toNat_of_nonneg hk0']; omega)] at hob
                    simpa using hob
                  rw [hA3] at hpn
                  have hsq : nth (ps'.set k.toNat (nth ps' k - 1)) k = nth ps' k - 1 := by rw [nth_set _ _ _ hk0' hkp _ hk0', if_pos rfl]
                  repeat' (first | refine WP_seq ?_ | refine WP_region ?_ | refine wl_nil ?_ | refine then_normal ?_ | refine WP_skip ?_ | refine WP_block ?_ | refine WP_condF rfl ?_ | refine WP_draw (by kernel_rfl) (by kernel_rfl) ?_ | (refine ql_nil ?_; intro w hb; replace S := S.grow hb; clear hb) | (refine g_move ?_; refine st_move rfl ?_) | (refine g_pick ?_; refine st_pickT rfl rfl ?_) | (refine g_b_add ?_; (refine st_val rfl (r_addN rfl rfl ?_ ?_) ?_; (first | omega | (simp <;> omega)); (first | omega | (simp <;> omega)))) | (refine g_b_sub ?_; (refine st_val rfl (r_subN rfl rfl ?_ ?_) ?_; (first | omega | (simp <;> omega)); (first | omega | (simp <;> omega)))) | (refine g_b_eql ?_; refine st_val rfl (r_eql rfl rfl) ?_) | (refine g_b_lss ?_; refine st_val rfl (r_lss rfl rfl) ?_) | (refine g_c_len ?_; refine st_val rfl (r_lenSlice rfl) ?_) | (refine g_indexAddr ?_; (refine st_val rfl (r_indexAddr (S.rdRow (D := fInt .i64) (i := 0) rfl) rfl rfl ?_ ?_) ?_; (first | omega | (simp <;> omega)); (first | omega | (simp <;> omega)))) | (refine g_load ?_; (refine st_val rfl (r_loadElem1 (S.rdRow (D := fInt .i64) (i := 0) rfl) rfl ?_ ?_ rfl) ?_; (first | omega | (simp <;> omega)); (first | omega | (simp <;> omega)))) | (refine gq_move ?_; refine q_move rfl ?_) | (refine gq_pick ?_; refine q_pickF rfl rfl ?_) | (refine gq_b_eql ?_; refine q_val rfl (fun w' hb => r_eql rfl rfl) ?_) | (refine gq_un ?_; refine q_val rfl (fun w' hb => r_not rfl) ?_) | (refine gq_indexAddr ?_; first | (refine q_val rfl (fun w' hb => r_indexAddr (hr.mono (S.grow hb).below) rfl rfl ?_ ?_) ?_; (first | omega | (simp <;> omega)); (first | omega | (simp <;> omega))) | (refine q_val rfl (fun w' hb => r_indexAddr (hr2.mono (S.grow hb).below) rfl rfl ?_ ?_) ?_; (first | omega | (simp <;> omega)); (first | omega | (simp <;> omega))) | (refine q_val rfl (fun w' hb => r_indexAddr ((S.grow hb).rdRow (D := fInt .i64) (i := 0) rfl) rfl rfl ?_ ?_) ?_; (first | omega | (simp <;> omega)); (first | omega | (simp <;> omega)))) | (refine gq_load ?_; first | (refine q_val rfl (fun w' hb => r_loadElem (hr.mono (S.grow hb).below) rfl ?_ ?_) ?_; (first | omega | (simp <;> omega)); (first | omega | (simp <;> omega))) | (refine q_val rfl (fun w' hb => r_loadElem (hr2.mono (S.grow hb).below) rfl ?_ ?_) ?_; (first | omega | (simp <;> omega)); (first | omega | (simp <;> omega))) | (refine q_val rfl (fun w' hb => r_loadElem1 ((S.grow hb).rdRow (D := fInt .i64) (i := 0) rfl) rfl ?_ ?_ rfl) ?_; (first | omega | (simp <;> omega)); (first | omega | (simp <;> omega)))) | (refine gq_callV ?_; refine q_callV rfl (fun w' hb => r_call2 rfl rfl rfl) (fun w' hb => permitted_is hG hU hpm2) ?_) | (refine g_store ?_; refine st_skipE rfl (r_storeElem (i := 0) (D := fInt .i64) S rfl rfl rfl rfl (fun c hc => by cases List.mem_singleton.1 hc; rfl) (by first | omega | (simp; omega)) (by first | omega | (simp; omega))) ?_; intro w S'; replace S := S'; clear S') | (refine wl_split rfl rfl (fun h => ?_) (fun h => ?_) <;> (fail_if_success (have hh : true = true := h)) <;> (fail_if_success (have hh : false = false := h)) <;> (try simp only [decide_eq_true_eq, decide_eq_false_iff_not, Bool.not_eq_true', Bool.not_eq_false', Int.not_lt, Int.not_le] at h) <;> (try (exfalso; omega))) | (refine ql_split rfl rfl (fun h => ?_) (fun h => ?_) <;> (fail_if_success (have hh : true = true := h)) <;> (fail_if_success (have hh : false = false := h)) <;> (try simp only [decide_eq_true_eq, decide_eq_false_iff_not, Bool.not_eq_true', Bool.not_eq_false', Int.not_lt, Int.not_le] at h) <;> (try (exfalso; omega))) | (refine WP_cond rfl (fun h => ?_) (fun h => ?_) <;> (fail_if_success (have hh : true = true := h)) <;> (fail_if_success (have hh : false = false := h)) <;> (try simp only [decide_eq_true_eq, decide_eq_false_iff_not, Bool.not_eq_true', Bool.not_eq_false', Int.not_lt, Int.not_le] at h) <;> (try (exfalso; omega))))
                  refine st_valE rfl (r_sliceLoE (hr2.mono S.below) rfl rfl (by omega) (by omega)) ?_
                  rintro vs' _ ⟨rfl, hrs⟩
                  replace S : St w0 _ [rowOb (fInt .i64) 3 vp (ps'.set k.toNat (nth ps' k - 1)), rowOb (fInt .i64) 3 _ (iz ks')] := S
                  repeat' (first | refine WP_region ?_ | refine wl_nil ?_ | refine then_normal ?_ | refine inB_normal ?_ | refine WP_condF rfl ?_ | (refine g_move ?_; refine st_move rfl ?_) | (refine g_assign ?_; refine st_assign rfl ?_) | (refine g_b_add ?_; (refine st_val rfl (r_addN rfl rfl ?_ ?_) ?_; (first | omega | (simp <;> omega)); (first | omega | (simp <;> omega)))) | (refine g_indexAddr ?_; (refine st_val rfl (r_indexAddr (S.rdRow (D := fInt .i64) (i := 0) rfl) rfl rfl ?_ ?_) ?_; (first | omega | (simp <;> omega)); (first | omega | (simp <;> omega)))) | (refine g_load ?_; (refine st_val rfl (r_loadElem1 (S.rdRow (D := fInt .i64) (i := 0) rfl) rfl ?_ ?_ rfl) ?_; (first | omega | (simp <;> omega)); (first | omega | (simp <;> omega)))) | (refine g_callV ?_; (refine st_callV rfl (r_call3 rfl rfl rfl rfl) (enough_is (hr.mono S.below) hrs (S.rdRow (D := fInt .i64) (i := 0) rfl) hl hvu' (by simp [hpl]) hst hpn) ?_; intro w hb; replace S := S.grow hb; clear hb)) | (refine g_store ?_; refine st_skipE rfl (r_storeElem (i := 0) (D := fInt .i64) S rfl rfl rfl rfl (fun c hc => by cases List.mem_singleton.1 hc; rfl) (by first | omega | (simp; omega)) (by first | omega | (simp; omega))) ?_; intro w S'; replace S := S'; clear S'))
                  have hbk : (ps'.set k.toNat (nth ps' k - 1)).set k.toNat (nth (ps'.set k.toNat (nth ps' k - 1)) k + 1) = ps' := by
                    rw [hsq, show nth ps' k - 1 + 1 = nth ps' k by omega]; exact ps_back _ _ _ hk0' hkp
                  refine nextI.mk ⟨_, ?_, k + 1, _, ps', ks', ⟨rfl, rfl, rfl, rfl, rfl, rfl, trivial⟩, S.eqos (by show rowOb _ _ _ _ :: _ = _; rw [hbk]; rfl), by omega, rfl, .inl ⟨by omega, rfl, rfl⟩⟩
                  omega
              · have hne : k ≠ k0 := fun e => by rw [show k.toNat = k0 by omega] at hpm0; rw [hpm0] at hpm; exact hpm2 hpm
                repeat' (first | refine WP_seq ?_ | refine WP_region ?_ | refine wl_nil ?_ | refine then_normal ?_ | refine then_exit ?_ | refine inB_here ?_ | refine WP_skip ?_ | refine WP_exit ?_ | refine WP_block ?_ | refine WP_condT rfl ?_ | refine WP_draw (by kernel_rfl) (by kernel_rfl) ?_ | (refine ql_nil ?_; intro w hb; replace S := S.grow hb; clear hb) | (refine g_move ?_; refine st_move rfl ?_) | (refine g_assign ?_; refine st_assign rfl ?_) | (refine g_pick ?_; refine st_pickT rfl rfl ?_) | (refine g_b_add ?_; (refine st_val rfl (r_addN rfl rfl ?_ ?_) ?_; (first | omega | (simp <;> omega)); (first | omega | (simp <;> omega)))) | (refine g_b_eql ?_; refine st_val rfl (r_eql rfl rfl) ?_) | (refine g_b_lss ?_; refine st_val rfl (r_lss rfl rfl) ?_) | (refine g_c_len ?_; refine st_val rfl (r_lenSlice rfl) ?_) | (refine gq_move ?_; refine q_move rfl ?_) | (refine gq_pick ?_; refine q_pickF rfl rfl ?_) | (refine gq_b_eql ?_; refine q_val rfl (fun w' hb => r_eql rfl rfl) ?_) | (refine gq_un ?_; refine q_val rfl (fun w' hb => r_not rfl) ?_) | (refine gq_indexAddr ?_; first | (refine q_val rfl (fun w' hb => r_indexAddr (hr.mono (S.grow hb).below) rfl rfl ?_ ?_) ?_; (first | omega | (simp <;> omega)); (first | omega | (simp <;> omega))) | (refine q_val rfl (fun w' hb => r_indexAddr (hr2.mono (S.grow hb).below) rfl rfl ?_ ?_) ?_; (first | omega | (simp <;> omega)); (first | omega | (simp <;> omega))) | (refine q_val rfl (fun w' hb => r_indexAddr ((S.grow hb).rdRow (D := fInt .i64) (i := 0) rfl) rfl rfl ?_ ?_) ?_; (first | omega | (simp <;> omega)); (first | omega | (simp <;> omega)))) | (refine gq_load ?_; first | (refine q_val rfl (fun w' hb => r_loadElem (hr.mono (S.grow hb).below) rfl ?_ ?_) ?_; (first | omega | (simp <;> omega)); (first | omega | (simp <;> omega))) | (refine q_val rfl (fun w' hb => r_loadElem (hr2.mono (S.grow hb).below) rfl ?_ ?_) ?_; (first | omega | (simp <;> omega)); (first | omega | (simp <;> omega))) | (refine q_val rfl (fun w' hb => r_loadElem1 ((S.grow hb).rdRow (D := fInt .i64) (i := 0) rfl) rfl ?_ ?_ rfl) ?_; (first | omega | (simp <;> omega)); (first | omega | (simp <;> omega)))) | (refine gq_callV ?_; refine q_callV rfl (fun w' hb => r_call2 rfl rfl rfl) (fun w' hb => permitted_is hG hU (Bool.eq_false_iff.2 hpm2)) ?_) | (refine wl_split rfl rfl (fun h => ?_) (fun h => ?_) <;> (fail_if_success (have hh : true = true := h)) <;> (fail_if_success (have hh : false = false := h)) <;> (try simp only [decide_eq_true_eq, decide_eq_false_iff_not, Bool.not_eq_true', Bool.not_eq_false', Int.not_lt, Int.not_le] at h) <;> (try (exfalso; omega))) | (refine ql_split rfl rfl (fun h => ?_) (fun h => ?_) <;> (fail_if_success (have hh : true = true := h)) <;> (fail_if_success (have hh : false = false := h)) <;> (try simp only [decide_eq_true_eq, decide_eq_false_iff_not, Bool.not_eq_true', Bool.not_eq_false', Int.not_lt, Int.not_le] at h) <;> (try (exfalso; omega))) | (refine WP_cond rfl (fun h => ?_) (fun h => ?_) <;> (fail_if_success (have hh : true = true := h)) <;> (fail_if_success (have hh : false = false := h)) <;> (try simp only [decide_eq_true_eq, decide_eq_false_iff_not, Bool.not_eq_true', Bool.not_eq_false', Int.not_lt, Int.not_le] at h) <;> (try (exfalso; omega))))
                refine nextI.mk ⟨_, ?_, k + 1, _, ps', ks', ⟨rfl, rfl, rfl, rfl, rfl, rfl, trivial⟩, S, by omega, rfl, .inl ⟨by omega, rfl, rfl⟩⟩
                omega
          · subst hps' hks'
            have hizl : ((iz (ks ++ [k0])).length : Int) = i + 1 := by simp; omega
            have hst := ps_set (i := (k0 : Int)) hpb (p := nth ps (k0 : Int) - 1) (by unfold plsN at hpy; omega) (by have := hpb _ (nth_mem (l := ps) (i := (k0 : Int)) (by omega) (by omega)); omega)
            have hpr := prmN_drop l us i hi0
            have hpy2 := plsN_set ps (k0 : Int) (by omega) (by omega)
            rw [Int.toNat_natCast] at hpy2 hst
            repeat' (first | refine WP_seq ?_ | refine WP_region ?_ | refine wl_nil ?_ | refine then_normal ?_ | refine inB_normal ?_ | refine then_exit ?_ | refine inB_here ?_ | refine WP_exit ?_ | refine WP_condF rfl ?_ | (refine g_guard ?_; refine st_off rfl ?_) | (refine g_move ?_; refine st_move rfl ?_) | (refine g_assign ?_; refine st_assign rfl ?_) | (refine g_pick ?_; first | refine st_pickT rfl rfl ?_ | refine st_pickF rfl rfl ?_) | (refine g_b_add ?_; (refine st_val rfl (r_addN rfl rfl ?_ ?_) ?_; (first | omega | (simp <;> omega)); (first | omega | (simp <;> omega)))) | (refine g_b_eql ?_; refine st_val rfl (r_eql rfl rfl) ?_) | (refine g_b_lss ?_; refine st_val rfl (r_lss rfl rfl) ?_) | (refine g_c_len ?_; refine st_val rfl (r_lenSlice rfl) ?_) | (refine wl_split rfl rfl (fun h => ?_) (fun h => ?_) <;> (fail_if_success (have hh : true = true := h)) <;> (fail_if_success (have hh : false = false := h)) <;> (try simp only [decide_eq_true_eq, decide_eq_false_iff_not, Bool.not_eq_true', Bool.not_eq_false', Int.not_lt, Int.not_le] at h) <;> (try (exfalso; omega))) | (refine WP_cond rfl (fun h => ?_) (fun h => ?_) <;> (fail_if_success (have hh : true = true := h)) <;> (fail_if_success (have hh : false = false := h)) <;> (try simp only [decide_eq_true_eq, decide_eq_false_iff_not, Bool.not_eq_true', Bool.not_eq_false', Int.not_lt, Int.not_le] at h) <;> (try (exfalso; omega))))
            all_goals (refine nextI.mk ⟨_, ?_, i + 1, _, _, _, _, ⟨rfl, rfl, rfl, rfl, rfl, trivial⟩, S, by omega, by omega, rfl, hst, by simp [hpl], (by simp; omega), ?_, ?_⟩)
            all_goals first
              | omega
              | (rw [hn, hpr, hpy2]; exact hA2)
              | (rw [hn, hpr, hpy2, List.append_assoc]; exact hgr)
        · have e : us.length - i.toNat = 0 := by omega
          rw [e] at hgr
          have e2 : ks = greedy l.length us.length (prmN l us) (plyN l) := by rw [← hgr, greedy, List.append_nil]
          rw [← e2]
          repeat' (first | refine WP_seq ?_ | refine WP_region ?_ | refine wl_nil ?_ | refine then_normal ?_ | refine then_exit ?_ | refine inB_here ?_ | refine WP_ret ?_ | refine WP_exit ?_ | (refine g_move ?_; refine st_move rfl ?_) | (refine g_assign ?_; refine st_assign rfl ?_) | (refine g_b_lss ?_; refine st_val rfl (r_lss rfl rfl) ?_) | (refine g_c_len ?_; refine st_val rfl (r_lenSlice rfl) ?_) | (refine WP_cond rfl (fun h => ?_) (fun h => ?_) <;> (fail_if_success (have hh : true = true := h)) <;> (fail_if_success (have hh : false = false := h)) <;> (try simp only [decide_eq_true_eq, decide_eq_false_iff_not, Bool.not_eq_true', Bool.not_eq_false', Int.not_lt, Int.not_le] at h) <;> (try (exfalso; omega))))
          exact end2 (v := vo) (v2 := .int .i64 0) rfl rfl rfl ⟨_, rfl, S.below, _, rfl, S.row (i := 1) rfl⟩
      · rw [Bool.eq_false_iff.2 ha] at hAe
        have hasn : asnI l us = ([], 80) := if_neg (fun h => ha h.2.2)
        rw [hasn]
        repeat' (first | refine WP_seq ?_ | refine WP_region ?_ | refine wl_nil ?_ | refine then_normal ?_ | refine then_ret ?_ | refine WP_ret ?_ | refine WP_condT rfl ?_ | (refine g_move ?_; refine st_move rfl ?_) | (refine g_assign ?_; refine st_assign rfl ?_) | (refine g_un ?_; refine st_val rfl (r_not rfl) ?_) | (refine g_callV ?_; (refine st_callV rfl (r_call3 rfl rfl rfl rfl) (enough_is (hr.mono S.below) (hr2.mono S.below) (S.rdRow (D := fInt .i64) (i := 0) rfl) hl hu (by simp [playsL]) (playsL_ok hl) hAe) ?_; intro w hb; replace S := S.grow hb; clear hb)))
        exact end2 (v := .slice none 0 0) (v2 := .int .i64 80) rfl rfl rfl ⟨_, rfl, S.below, _, rfl, NewRow.nil _ _ _ _⟩
    · have hasn : asnI l us = ([], 80) := if_neg (fun h => hu h.2.1)
      rw [hasn]
      repeat' (first | refine WP_seq ?_ | refine WP_region ?_ | refine wl_nil ?_ | refine then_normal ?_ | refine then_ret ?_ | refine WP_ret ?_ | refine WP_condT rfl ?_ | (refine g_move ?_; refine st_move rfl ?_) | (refine g_assign ?_; refine st_assign rfl ?_) | (refine g_pick ?_; refine st_pickF rfl rfl ?_) | (refine g_un ?_; refine st_val rfl (r_not rfl) ?_) | (refine g_callV ?_; first | (refine st_callV rfl (r_call1 rfl rfl) (validR_is (hr.mono S.below) hl2 hl) ?_; intro w hb; replace S := S.grow hb; clear hb) | (refine st_callV rfl (r_call1 rfl rfl) (validUsesR_is (hr2.mono S.below) hu2 (Bool.eq_false_iff.2 hu)) ?_; intro w hb; replace S := S.grow hb; clear hb)))
      exact end2 (v := .slice none 0 0) (v2 := .int .i64 80) rfl rfl rfl ⟨_, rfl, S.below, _, rfl, NewRow.nil _ _ _ _⟩
  · have hasn : asnI l us = ([], 80) := if_neg (fun h => hl h.1)
    rw [hasn]
    repeat' (first | refine WP_seq ?_ | refine WP_region ?_ | refine wl_nil ?_ | refine then_normal ?_ | refine then_ret ?_ | refine WP_ret ?_ | refine WP_condT rfl ?_ | (refine g_guard ?_; refine st_off rfl ?_) | (refine g_move ?_; refine st_move rfl ?_) | (refine g_assign ?_; refine st_assign rfl ?_) | (refine g_pick ?_; refine st_pickT rfl rfl ?_) | (refine g_un ?_; refine st_val rfl (r_not rfl) ?_) | (refine g_callV ?_; (refine st_callV rfl (r_call1 rfl rfl) (validR_is (hr.mono S.below) hl2 (Bool.eq_false_iff.2 hl)) ?_; intro w hb; replace S := S.grow hb; clear hb)))
    exact end2 (v := .slice none 0 0) (v2 := .int .i64 80) rfl rfl rfl ⟨_, rfl, S.below, _, rfl, NewRow.nil _ _ _ _⟩
end Go.Proofs.Ytfdjnadopniaeaa
