import Derived.Test.YtfdjnadopniaeaaQ
namespace Go.Proofs.Ytfdjnadopniaeaa
open Go Go.Gx Go.RowKit
open Kuhn
set_option linter.unusedVariables false
set_option linter.unusedSimpArgs false

/-- The plays of a list of numbers. -/
def plsN (ps : List Int) (k : Nat) : Nat := (nth ps (k : Int)).toNat
theorem plsN_le {ps : List Int} (hp : ∀ p ∈ ps, 0 ≤ p ∧ p ≤ 100) (k : Nat) : plsN ps k ≤ 100 := by
  unfold plsN
  by_cases h : (k : Int) < ps.length
  · have := hp _ (nth_mem (by omega) h); omega
  · have e : nth ps (k : Int) = 0 := by
      unfold nth; simp only [List.getD]
      rw [List.getElem?_eq_none (by omega)]; rfl
    rw [e]; decide
set_option maxRecDepth 20000 in
set_option maxHeartbeats 16000000 in
theorem lacks_spec {l : List GGrant} {us : List GUse} {ps : List Int} {vl vu vp : Value} {si : Int} {s : Nat} {w0 : World} (hr : Rd fGGrant.ty w0 vl l) (hr2 : Rd fGUse.ty w0 vu us) (hr3 : Rd (fInt .i64).ty w0 vp ps) (hl : validG l = true) (hu : validU us = true) (hps : ps.length = l.length) (hp : ∀ p ∈ ps, 0 ≤ p ∧ p ≤ 100) (hsi : si = s) (hs : s < 2 ^ us.length) :
    CallsV Try.prog 47 #[vl, vp, vu, .int .i64 si] w0 (.bool (lackS (prmN l us) (plsN ps) l.length us.length s)) := by
  have S := St.start w0
  have hl12 : l.length ≤ 12 := by unfold validG at hl; simp at hl; omega
  have hu10 : us.length ≤ 10 := by unfold validU at hu; simp at hu; omega
  have hs60 : s < 2 ^ 60 := Nat.lt_of_lt_of_le hs (Nat.pow_le_pow_right (by decide) (by omega))
  have hple := plsN_le hp
  obtain ⟨A0, c, rfl⟩ := hr.len
  obtain ⟨A2, cu, rfl⟩ := hr2.len
  obtain ⟨A3, cp, rfl⟩ := hr3.len
  subst hsi
  refine CallsV.mk ?_
  refine calls_enter Try.func47 rfl (by intro _ h; first | exact nomatch h.1 | (obtain ⟨_, h, _⟩ := h; exact nomatch h)) Try.ntmps47 rfl ?_
  repeat' (first | refine WP_seq ?_ | refine WP_region ?_ | refine wl_nil ?_ | refine then_normal ?_ | refine WP_block ?_ | (refine g_assign ?_; refine st_assign rfl ?_))
  refine WP_loop (fun k σ w1 => ∃ (i : Int), Has σ [(0, .slice A0 l.length c), (1, .slice A3 ps.length cp), (2, .slice A2 us.length cu), (3, .int .i64 s), (9, .int .i64 (needTo (prmN l us) (plsN ps) (elems us.length s) i.toNat : Nat)), (10, .int .i64 i)] ∧ St w0 w1 [] ∧ 0 ≤ i ∧ i ≤ l.length ∧ k = l.length - i.toNat) l.length ⟨0, ⟨rfl, rfl, rfl, rfl, rfl, rfl, trivial⟩, S, by omega, by omega, by omega⟩ ?_
  clear S
  rintro k σ w1 ⟨i, hsl, S, hi0, hi1, rfl⟩
  refine WP_has hsl ?_
  have hnl := needTo_le (perm := prmN l us) (X := elems us.length s) hple i.toNat
  by_cases hi : i < l.length
  · have hG := ok_of hl _ (nth_mem hi0 hi)
    have hns := needTo_succ (prmN l us) (plsN ps) (elems us.length s) i.toNat
    rw [anyTo_elems, show i.toNat + 1 = (i + 1).toNat by omega] at hns
    repeat' (first | refine WP_seq ?_ | refine WP_region ?_ | refine wl_nil ?_ | refine then_normal ?_ | refine WP_skip ?_ | refine WP_block ?_ | (refine g_move ?_; refine st_move rfl ?_) | (refine g_assign ?_; refine st_assign rfl ?_) | (refine g_b_lss ?_; refine st_val rfl (r_lss rfl rfl) ?_) | (refine g_c_len ?_; refine st_val rfl (r_lenSlice rfl) ?_) | (refine WP_cond rfl (fun h => ?_) (fun h => ?_) <;> (fail_if_success (have hh : true = true := h)) <;> (fail_if_success (have hh : false = false := h)) <;> (try simp only [decide_eq_true_eq, decide_eq_false_iff_not, Bool.not_eq_true', Bool.not_eq_false', Int.not_lt, Int.not_le] at h) <;> (try (exfalso; omega))))
    refine WP_loop (fun k σ w1 => ∃ (j : Int), Has σ [(0, .slice A0 l.length c), (1, .slice A3 ps.length cp), (2, .slice A2 us.length cu), (3, .int .i64 s), (9, .int .i64 (needTo (prmN l us) (plsN ps) (elems us.length s) i.toNat : Nat)), (10, .int .i64 i), (11, .bool (anyTo (prmN l us) s i.toNat j.toNat)), (12, .int .i64 j)] ∧ St w0 w1 [] ∧ 0 ≤ j ∧ j ≤ us.length ∧ k = us.length - j.toNat) us.length ⟨0, ⟨rfl, rfl, rfl, rfl, rfl, rfl, rfl, rfl, trivial⟩, S, by omega, by omega, by omega⟩ ?_
    clear S
    rintro k σ w1 ⟨j, hsl, S, hj0, hj1, rfl⟩
    refine WP_has hsl ?_
    by_cases hj : j < us.length
    · have hU := okU_of hu _ (nth_mem hj0 hj)
      have has := anyTo_succ (prmN l us) s i.toNat j.toNat
      rw [prmN_nth l us hi0 hj0, show j.toNat + 1 = (j + 1).toNat by omega] at has
      cases ha : anyTo (prmN l us) s i.toNat j.toNat
      · cases hbt : bit s j.toNat
        · rw [ha, hbt] at has
          repeat' (first | refine WP_seq ?_ | refine WP_region ?_ | refine wl_nil ?_ | refine then_normal ?_ | refine inB_normal ?_ | refine WP_skip ?_ | refine WP_block ?_ | refine WP_draw (by kernel_rfl) (by kernel_rfl) ?_ | (refine ql_nil ?_; intro w hb; replace S := S.grow hb; clear hb) | (refine g_move ?_; refine st_move rfl ?_) | (refine g_assign ?_; refine st_assign rfl ?_) | (refine g_b_add ?_; (refine st_val rfl (r_addN rfl rfl ?_ ?_) ?_; (first | omega | (simp <;> omega)); (first | omega | (simp <;> omega)))) | (refine g_b_lss ?_; refine st_val rfl (r_lss rfl rfl) ?_) | (refine g_c_len ?_; refine st_val rfl (r_lenSlice rfl) ?_) | (refine gq_guard ?_; refine q_off rfl ?_) | (refine gq_move ?_; refine q_move rfl ?_) | (refine gq_assign ?_; refine q_assign rfl ?_) | (refine gq_pick ?_; refine q_pickF rfl rfl ?_) | (refine gq_callV ?_; refine q_callV rfl (fun w' hb => r_call2 rfl rfl rfl) (fun w' hb => bit_is rfl hs60 (Int.toNat_of_nonneg hj0).symm (by omega) hbt) ?_) | (refine WP_cond rfl (fun h => ?_) (fun h => ?_) <;> (fail_if_success (have hh : true = true := h)) <;> (fail_if_success (have hh : false = false := h)) <;> (try simp only [decide_eq_true_eq, decide_eq_false_iff_not, Bool.not_eq_true', Bool.not_eq_false', Int.not_lt, Int.not_le] at h) <;> (try (exfalso; omega))))
          refine nextI.mk ⟨_, ?_, j + 1, ⟨rfl, rfl, rfl, rfl, rfl, rfl, by rw [has]; rfl, rfl, trivial⟩, S, by omega, by omega, rfl⟩
          omega
        · cases hp2 : permG (nth l i) (nth us j)
          all_goals rw [ha, hbt, hp2] at has
          all_goals repeat' (first | refine WP_seq ?_ | refine WP_region ?_ | refine wl_nil ?_ | refine then_normal ?_ | refine inB_normal ?_ | refine WP_skip ?_ | refine WP_block ?_ | refine WP_draw (by kernel_rfl) (by kernel_rfl) ?_ | (refine ql_nil ?_; intro w hb; replace S := S.grow hb; clear hb) | (refine g_move ?_; refine st_move rfl ?_) | (refine g_assign ?_; refine st_assign rfl ?_) | (refine g_b_add ?_; (refine st_val rfl (r_addN rfl rfl ?_ ?_) ?_; (first | omega | (simp <;> omega)); (first | omega | (simp <;> omega)))) | (refine g_b_lss ?_; refine st_val rfl (r_lss rfl rfl) ?_) | (refine g_c_len ?_; refine st_val rfl (r_lenSlice rfl) ?_) | (refine gq_move ?_; refine q_move rfl ?_) | (refine gq_assign ?_; refine q_assign rfl ?_) | (refine gq_pick ?_; first | refine q_pickT rfl rfl ?_ | refine q_pickF rfl rfl ?_) | (refine gq_indexAddr ?_; first | (refine q_val rfl (fun w' hb => r_indexAddr (hr.mono (S.grow hb).below) rfl rfl ?_ ?_) ?_; (first | omega | (simp <;> omega)); (first | omega | (simp <;> omega))) | (refine q_val rfl (fun w' hb => r_indexAddr (hr2.mono (S.grow hb).below) rfl rfl ?_ ?_) ?_; (first | omega | (simp <;> omega)); (first | omega | (simp <;> omega)))) | (refine gq_load ?_; first | (refine q_val rfl (fun w' hb => r_loadElem (hr.mono (S.grow hb).below) rfl ?_ ?_) ?_; (first | omega | (simp <;> omega)); (first | omega | (simp <;> omega))) | (refine q_val rfl (fun w' hb => r_loadElem (hr2.mono (S.grow hb).below) rfl ?_ ?_) ?_; (first | omega | (simp <;> omega)); (first | omega | (simp <;> omega)))) | (refine gq_callV ?_; first | refine q_callV rfl (fun w' hb => r_call2 rfl rfl rfl) (fun w' hb => bit_is rfl hs60 (Int.toNat_of_nonneg hj0).symm (by omega) hbt) ?_ | refine q_callV rfl (fun w' hb => r_call2 rfl rfl rfl) (fun w' hb => permitted_is hG hU hp2) ?_) | (refine WP_cond rfl (fun h => ?_) (fun h => ?_) <;> (fail_if_success (have hh : true = true := h)) <;> (fail_if_success (have hh : false = false := h)) <;> (try simp only [decide_eq_true_eq, decide_eq_false_iff_not, Bool.not_eq_true', Bool.not_eq_false', Int.not_lt, Int.not_le] at h) <;> (try (exfalso; omega))))
          all_goals refine nextI.mk ⟨_, ?_, j + 1, ⟨rfl, rfl, rfl, rfl, rfl, rfl, by rw [has]; rfl, rfl, trivial⟩, S, by omega, by omega, rfl⟩
          all_goals omega
      · rw [ha] at has
        repeat' (first | refine WP_seq ?_ | refine WP_region ?_ | refine wl_nil ?_ | refine then_normal ?_ | refine inB_normal ?_ | refine WP_skip ?_ | refine WP_block ?_ | refine WP_draw (by kernel_rfl) (by kernel_rfl) ?_ | (refine ql_nil ?_; intro w hb; replace S := S.grow hb; clear hb) | (refine g_move ?_; refine st_move rfl ?_) | (refine g_assign ?_; refine st_assign rfl ?_) | (refine g_b_add ?_; (refine st_val rfl (r_addN rfl rfl ?_ ?_) ?_; (first | omega | (simp <;> omega)); (first | omega | (simp <;> omega)))) | (refine g_b_lss ?_; refine st_val rfl (r_lss rfl rfl) ?_) | (refine g_c_len ?_; refine st_val rfl (r_lenSlice rfl) ?_) | (refine gq_guard ?_; refine q_off rfl ?_) | (refine gq_move ?_; refine q_move rfl ?_) | (refine gq_assign ?_; refine q_assign rfl ?_) | (refine gq_pick ?_; refine q_pickT rfl rfl ?_) | (refine WP_cond rfl (fun h => ?_) (fun h => ?_) <;> (fail_if_success (have hh : true = true := h)) <;> (fail_if_success (have hh : false = false := h)) <;> (try simp only [decide_eq_true_eq, decide_eq_false_iff_not, Bool.not_eq_true', Bool.not_eq_false', Int.not_lt, Int.not_le] at h) <;> (try (exfalso; omega))))
        refine nextI.mk ⟨_, ?_, j + 1, ⟨rfl, rfl, rfl, rfl, rfl, rfl, by rw [has]; rfl, rfl, trivial⟩, S, by omega, by omega, rfl⟩
        omega
    · have e : j.toNat = us.length := by omega
      rw [e]
      have hpi : (plsN ps i.toNat : Int) = nth ps i := by
        unfold plsN; rw [Int.toNat_of_nonneg hi0]
        have := hp _ (nth_mem (l := ps) hi0 (by omega))
        omega
      have hpi2 := hple i.toNat
      cases ha : anyTo (prmN l us) s i.toNat us.length
      · rw [ha] at hns
        repeat' (first | refine WP_seq ?_ | refine WP_region ?_ | refine wl_nil ?_ | refine then_normal ?_ | refine inB_normal ?_ | refine then_exit ?_ | refine inB_here ?_ | refine WP_skip ?_ | refine WP_exit ?_ | refine WP_condF rfl ?_ | (refine g_move ?_; refine st_move rfl ?_) | (refine g_assign ?_; refine st_assign rfl ?_) | (refine g_b_add ?_; (refine st_val rfl (r_addN rfl rfl ?_ ?_) ?_; (first | omega | (simp <;> omega)); (first | omega | (simp <;> omega)))) | (refine g_b_lss ?_; refine st_val rfl (r_lss rfl rfl) ?_) | (refine g_c_len ?_; refine st_val rfl (r_lenSlice rfl) ?_) | (refine WP_cond rfl (fun h => ?_) (fun h => ?_) <;> (fail_if_success (have hh : true = true := h)) <;> (fail_if_success (have hh : false = false := h)) <;> (try simp only [decide_eq_true_eq, decide_eq_false_iff_not, Bool.not_eq_true', Bool.not_eq_false', Int.not_lt, Int.not_le] at h) <;> (try (exfalso; omega))))
        refine nextI.mk ⟨_, ?_, i + 1, ⟨rfl, rfl, rfl, rfl, by rw [hns]; rfl, rfl, trivial⟩, S, by omega, by omega, rfl⟩
        omega
      · rw [ha, if_pos rfl] at hns
        repeat' (first | refine WP_seq ?_ | refine WP_region ?_ | refine wl_nil ?_ | refine then_normal ?_ | refine inB_normal ?_ | refine then_exit ?_ | refine inB_here ?_ | refine WP_exit ?_ | refine WP_condT rfl ?_ | (refine g_move ?_; refine st_move rfl ?_) | (refine g_assign ?_; refine st_assign rfl ?_) | (refine g_b_add ?_; (refine st_val rfl (r_addN rfl rfl ?_ ?_) ?_; (first | omega | (simp <;> omega)); (first | omega | (simp <;> omega)))) | (refine g_b_lss ?_; refine st_val rfl (r_lss rfl rfl) ?_) | (refine g_c_len ?_; refine st_val rfl (r_lenSlice rfl) ?_) | (refine g_indexAddr ?_; (refine st_val rfl (r_indexAddr (hr3.mono S.below) rfl rfl ?_ ?_) ?_; (first | omega | (simp <;> omega)); (first | omega | (simp <;> omega)))) | (refine g_load ?_; (refine st_val rfl (r_loadElem1 (hr3.mono S.below) rfl ?_ ?_ rfl) ?_; (first | omega | (simp <;> omega)); (first | omega | (simp <;> omega)))) | (refine WP_cond rfl (fun h => ?_) (fun h => ?_) <;> (fail_if_success (have hh : true = true := h)) <;> (fail_if_success (have hh : false = false := h)) <;> (try simp only [decide_eq_true_eq, decide_eq_false_iff_not, Bool.not_eq_true', Bool.not_eq_false', Int.not_lt, Int.not_le] at h) <;> (try (exfalso; omega))))
        refine nextI.mk ⟨_, ?_, i + 1, ⟨rfl, rfl, rfl, rfl, ?_, rfl, trivial⟩, S, by omega, by omega, rfl⟩
        · omega
        · show Value.int .i64 (_ + nth ps i) = _
          rw [hns, ← hpi]; rfl
  · have e : i.toNat = l.length := by omega
    rw [e]
    repeat' (first | refine WP_seq ?_ | refine WP_region ?_ | refine wl_nil ?_ | refine then_normal ?_ | refine then_exit ?_ | refine inB_here ?_ | refine WP_ret ?_ | refine WP_exit ?_ | (refine g_move ?_; refine st_move rfl ?_) | (refine g_assign ?_; refine st_assign rfl ?_) | (refine g_b_lss ?_; refine st_val rfl (r_lss rfl rfl) ?_) | (refine g_c_len ?_; refine st_val rfl (r_lenSlice rfl) ?_) | (refine g_callV ?_; (refine st_callV rfl (r_call1 rfl rfl) (size_spec rfl hs60) ?_; intro w hb; replace S := S.grow hb; clear hb)) | (refine WP_cond rfl (fun h => ?_) (fun h => ?_) <;> (fail_if_success (have hh : true = true := h)) <;> (fail_if_success (have hh : false = false := h)) <;> (try simp only [decide_eq_true_eq, decide_eq_false_iff_not, Bool.not_eq_true', Bool.not_eq_false', Int.not_lt, Int.not_le] at h) <;> (try (exfalso; omega))))
    refine end1 rfl rfl ⟨rb ?_, S.below⟩
    unfold lackS lackB need
    rw [popc_size _ _ hs]
    rw [decide_eq_decide]
    show ((needTo _ _ _ _ : Nat) : Int) < _ ↔ needTo _ _ _ _ < _
    unfold size
    omega
theorem lacks_is {l : List GGrant} {us : List GUse} {ps : List Int} {vl vu vp : Value} {si : Int} {s : Nat} {b : Bool} {w0 : World} (hr : Rd fGGrant.ty w0 vl l) (hr2 : Rd fGUse.ty w0 vu us) (hr3 : Rd (fInt .i64).ty w0 vp ps) (hl : validG l = true) (hu : validU us = true) (hps : ps.length = l.length) (hp : ∀ p ∈ ps, 0 ≤ p ∧ p ≤ 100) (hsi : si = s) (hs : s < 2 ^ us.length) (h : lackS (prmN l us) (plsN ps) l.length us.length s = b) :
    CallsV Try.prog 47 #[vl, vp, vu, .int .i64 si] w0 (.bool b) := by rw [← h]; exact lacks_spec hr hr2 hr3 hl hu hps hp hsi hs
theorem shl1 {n : Nat} (h : n ≤ 10) : IntKind.i64.wrap (1 * 2 ^ (min ((n : Nat) : Int).toNat IntKind.i64.bits)) = ((2 ^ n : Nat) : Int) := by
  have : n = 0 ∨ n = 1 ∨ n = 2 ∨ n = 3 ∨ n = 4 ∨ n = 5 ∨ n = 6 ∨ n = 7 ∨ n = 8 ∨ n = 9 ∨ n = 10 := by omega
  rcases this with rfl | rfl | rfl | rfl | rfl | rfl | rfl | rfl | rfl | rfl | rfl <;> decide
set_option maxRecDepth 20000 in
set_option maxHeartbeats 16000000 in
theorem enough_spec {l : List GGrant} {us : List GUse} {ps : List Int} {vl vu vp : Value} {w0 : World} (hr : Rd fGGrant.ty w0 vl l) (hr2 : Rd fGUse.ty w0 vu us) (hr3 : Rd (fInt .i64).ty w0 vp ps) (hl : validG l = true) (hu : validU us = true) (hps : ps.length = l.length) (hp : ∀ p ∈ ps, 0 ≤ p ∧ p ≤ 100) :
    CallsV Try.prog 42 #[vl, vp, vu] w0 (.bool (A (prmN l us) (plsN ps) l.length us.length)) := by
  have S := St.start w0
  have hu10 : us.length ≤ 10 := by unfold validU at hu; simp at hu; omega
  have hpw : 2 ^ us.length ≤ 2 ^ 10 := Nat.pow_le_pow_right (by decide) hu10
  have hsh := shl1 hu10
  obtain ⟨M, hM⟩ : ∃ M, 2 ^ us.length = M := ⟨_, rfl⟩
  rw [hM] at hpw hsh
  obtain ⟨A0, c, rfl⟩ := hr.len
  obtain ⟨A2, cu, rfl⟩ := hr2.len
  obtain ⟨A3, cp, rfl⟩ := hr3.len
  refine CallsV.mk ?_
  refine calls_enter Try.func42 rfl (by intro _ h; first | exact nomatch h.1 | (obtain ⟨_, h, _⟩ := h; exact nomatch h)) Try.ntmps42 rfl ?_
  repeat' (first | refine WP_seq ?_ | refine WP_region ?_ | refine wl_nil ?_ | refine then_normal ?_ | refine WP_block ?_ | (refine g_assign ?_; refine st_assign rfl ?_))
  refine WP_loop (fun k σ w1 => ∃ (s : Nat), Has σ [(0, .slice A0 l.length c), (1, .slice A3 ps.length cp), (2, .slice A2 us.length cu), (7, .int .i64 s)] ∧ St w0 w1 [] ∧ s ≤ M ∧ k = M - s ∧ ∀ t, t < s → lackS (prmN l us) (plsN ps) l.length us.length t = false) M ⟨0, ⟨rfl, rfl, rfl, rfl, trivial⟩, S, by omega, by omega, fun t h => by omega⟩ ?_
  clear S
  rintro k σ w1 ⟨s, hsl, S, hs, rfl, hall⟩
  refine WP_has hsl ?_
  by_cases hlt : s < M
  · cases hbt : lackS (prmN l us) (plsN ps) l.length us.length s
    · repeat' (first | refine WP_seq ?_ | refine WP_region ?_ | refine wl_nil ?_ | refine then_normal ?_ | refine inB_normal ?_ | refine WP_skip ?_ | refine WP_block ?_ | refine WP_condF rfl ?_ | (refine g_move ?_; refine st_move rfl ?_) | (refine g_assign ?_; refine st_assign rfl ?_) | (refine g_b_add ?_; (refine st_val rfl (r_addN rfl rfl ?_ ?_) ?_; (first | omega | (simp <;> omega)); (first | omega | (simp <;> omega)))) | (refine g_b_lss ?_; refine st_val rfl (r_lss rfl rfl) ?_) | (refine g_b_shl ?_; (refine st_val rfl (r_shl rfl rfl ?_) ?_; (first | omega | (simp <;> omega)))) | (refine g_c_len ?_; refine st_val rfl (r_lenSlice rfl) ?_) | (refine g_callV ?_; (refine st_callV rfl (r_call4 rfl rfl rfl rfl rfl) (lacks_is (hr.mono S.below) (hr2.mono S.below) (hr3.mono S.below) hl hu hps hp rfl (hM ▸ hlt) hbt) ?_; intro w hb; replace S := S.grow hb; clear hb)) | (refine WP_cond rfl (fun h => ?_) (fun h => ?_) <;> (fail_if_success (have hh : true = true := h)) <;> (fail_if_success (have hh : false = false := h)) <;> (try simp only [decide_eq_true_eq, decide_eq_false_iff_not, Bool.not_eq_true', Bool.not_eq_false', Int.not_lt, Int.not_le] at h) <;> (try (exfalso; omega))))
      refine nextI.mk ⟨_, ?_, s + 1, ⟨rfl, rfl, rfl, rfl, trivial⟩, S, by omega, rfl, fun t ht => ?_⟩
      · omega
      · by_cases e : t = s
        · subst e; exact hbt
        · exact hall t (by omega)
    · repeat' (first | refine WP_seq ?_ | refine WP_region ?_ | refine wl_nil ?_ | refine then_normal ?_ | refine then_ret ?_ | refine inB_ret ?_ | refine WP_ret ?_ | refine WP_skip ?_ | refine WP_block ?_ | refine WP_condT rfl ?_ | (refine g_move ?_; refine st_move rfl ?_) | (refine g_assign ?_; refine st_assign rfl ?_) | (refine g_b_lss ?_; refine st_val rfl (r_lss rfl rfl) ?_) | (refine g_b_shl ?_; (refine st_val rfl (r_shl rfl rfl ?_) ?_; (first | omega | (simp <;> omega)))) | (refine g_c_len ?_; refine st_val rfl (r_lenSlice rfl) ?_) | (refine g_callV ?_; (refine st_callV rfl (r_call4 rfl rfl rfl rfl rfl) (lacks_is (hr.mono S.below) (hr2.mono S.below) (hr3.mono S.below) hl hu hps hp rfl (hM ▸ hlt) hbt) ?_; intro w hb; replace S := S.grow hb; clear hb)) | (refine WP_cond rfl (fun h => ?_) (fun h => ?_) <;> (fail_if_success (have hh : true = true := h)) <;> (fail_if_success (have hh : false = false := h)) <;> (try simp only [decide_eq_true_eq, decide_eq_false_iff_not, Bool.not_eq_true', Bool.not_eq_false', Int.not_lt, Int.not_le] at h) <;> (try (exfalso; omega))))
      refine end1 rfl rfl ⟨rb ?_, S.below⟩
      symm; rw [Bool.eq_false_iff]; intro h
      rw [A_bits.1 h s (hM ▸ hlt)] at hbt; cases hbt
  · repeat' (first | refine WP_seq ?_ | refine WP_region ?_ | refine wl_nil ?_ | refine then_normal ?_ | refine then_exit ?_ | refine inB_here ?_ | refine WP_ret ?_ | refine WP_exit ?_ | (refine g_move ?_; refine st_move rfl ?_) | (refine g_assign ?_; refine st_assign rfl ?_) | (refine g_b_lss ?_; refine st_val rfl (r_lss rfl rfl) ?_) | (refine g_b_shl ?_; (refine st_val rfl (r_shl rfl rfl ?_) ?_; (first | omega | (simp <;> omega)))) | (refine g_c_len ?_; refine st_val rfl (r_lenSlice rfl) ?_) | (refine WP_cond rfl (fun h => ?_) (fun h => ?_) <;> (fail_if_success (have hh : true = true := h)) <;> (fail_if_success (have hh : false = false := h)) <;> (try simp only [decide_eq_true_eq, decide_eq_false_iff_not, Bool.not_eq_true', Bool.not_eq_false', Int.not_lt, Int.not_le] at h) <;> (try (exfalso; omega))))
    refine end1 rfl rfl ⟨rb ?_, S.below⟩
    symm; exact A_bits.2 fun s' h' => hall s' (by rw [hM] at h'; omega)
end Go.Proofs.Ytfdjnadopniaeaa
