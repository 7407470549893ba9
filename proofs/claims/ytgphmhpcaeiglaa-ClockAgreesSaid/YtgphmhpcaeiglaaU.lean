import Derived.Test.YtgphmhpcaeiglaaS
namespace Go.Proofs.Ytgphmhpcaeiglaa
open Go Go.Gx Go.RowKit
set_option linter.unusedVariables false
set_option linter.unusedSimpArgs false

theorem inverse {d t a : Int} {l : List GReading} (hv : validC d l = true) (t0 : 0 ≤ t) (t1 : t ≤ 10000000) (a0 : 0 ≤ a) (a1 : a ≤ 10000000) :
    ((atI d l a).2.2 = 0 ∧ (atI d l a).1 ≤ t ∧ t ≤ (atI d l a).2.1) ↔ ((readsI d l t).2.2 = 0 ∧ (readsI d l t).1 ≤ a ∧ a ≤ (readsI d l t).2.1) := by
  have hc := validC_ok hv
  obtain ⟨F, hF, f0, f1, flo, fhi⟩ := firstC_ex hc t
  obtain ⟨B, hB, b0, b1, blo, bhi⟩ := beyondC_ex hc t
  have key : ((atI d l a).2.2 = 0 ∧ (atI d l a).1 ≤ t ∧ t ≤ (atI d l a).2.1) ↔ (lowB d l a ≤ t ∧ t ≤ highB d l a) := by
    constructor
    · rintro ⟨h1, h2, h3⟩
      obtain ⟨_, _, _, _, e⟩ := atI_ok h1
      rw [e] at h2 h3; exact ⟨h2, h3⟩
    · rintro ⟨h2, h3⟩
      have e : atI d l a = (lowB d l a, highB d l a, 0) := by unfold atI; rw [if_pos ⟨hv, a0, a1, by omega⟩]
      rw [e]; exact ⟨rfl, h2, h3⟩
  rw [key]
  have k1 : lowB d l a ≤ t ↔ a < B := by
    constructor
    · intro h; rcases Int.lt_or_le a B with c | c
      · exact c
      · have := bhi a c a1; omega
    · intro h; exact blo a a0 h
  have k2 : t ≤ highB d l a ↔ F ≤ a := by
    constructor
    · intro h; rcases Int.lt_or_le a F with c | c
      · have := flo a a0 c; omega
      · exact c
    · intro h; exact fhi a h a1
  rw [k1, k2]
  unfold readsI
  rw [hF, hB]
  by_cases c : F < B
  · rw [if_pos ⟨hv, t0, t1, c⟩]; simp; omega
  · rw [if_neg (fun h => c h.2.2.2)]; simp; omega
theorem readsI_range (d : Int) (l : List GReading) (t : Int) : 0 ≤ (readsI d l t).1 ∧ (readsI d l t).1 ≤ 10000001 ∧ -1 ≤ (readsI d l t).2.1 ∧ (readsI d l t).2.1 ≤ 10000001 := by
  have a := firstC_range d l t
  have b := beyondC_range d l t
  unfold readsI
  split
  · simp only; omega
  · simp

set_option maxRecDepth 8000 in
set_option maxHeartbeats 2000000 in
theorem clockInverse_spec {dr st local_ t0_ : Int} {vr va : Value} {rates : List Int} {ats : List GArr3Int} {w0 : World} (i0 : inI dr) (i1 : inI st) (hr : Rd (fInt .i64).ty w0 vr rates) (hrok : ∀ x ∈ rates, inI x) (hrl : rates.length ≤ maxLen)
    (ha : Rd fGArr3Int.ty w0 va ats) (haok : ∀ x ∈ ats, okQ3 x) (hal : ats.length ≤ maxLen) (i2 : inI local_) (i5 : inI t0_) :
    CallsV Try.prog 6 #[.int .i64 dr, .int .i64 st, vr, va, .int .i64 local_, .int .i64 t0_] w0 (.bool true) := by
  have S := St.start w0
  obtain ⟨x, hx⟩ : ∃ z, pickI local_ 5000 = z := ⟨_, rfl⟩
  obtain ⟨t, ht⟩ : ∃ z, pickI t0_ 5000 = z := ⟨_, rfl⟩
  obtain ⟨y, hy⟩ : ∃ z, pickI local_ 21 = z := ⟨_, rfl⟩
  have rx := pickI_range (c := local_) (n := 5000) (by omega)
  have rt := pickI_range (c := t0_) (n := 5000) (by omega)
  have ry := pickI_range (c := local_) (n := 21) (by omega)
  rw [hx] at rx
  rw [ht] at rt
  rw [hy] at ry
  have it : inI t := by unfold inI; omega
  obtain ⟨d, hd⟩ : ∃ z, pickI dr 101 = z := ⟨_, rfl⟩
  have rd := pickI_range (c := dr) (n := 101) (by omega)
  rw [hd] at rd
  have id : inI d := by unfold inI; omega
  have hmade := fun w (hb : Below w0.heap.size w0 w) => made_spec (w0 := w) i0 i1 (hr.mono hb) hrl hrok (ha.mono hb) hal haok
  rw [hd] at hmade
  have hsb := shown_bound (dr := dr) (st := st) (r := rates) (t := t) (by omega)
  have hshown := fun w (hb : Below w0.heap.size w0 w) => shown_spec (w0 := w) (t := t) (hr.mono hb) hrl hrok i0 i1 (by omega) (by omega)
  generalize shownI dr st rates t = sh at *
  unfold inI at i2 i5
  refine CallsV.mk ?_
  refine calls_enter Try.func6 rfl Try.ntmps6 rfl ?_
  repeat' (first | refine WP_seq ?_ | refine WP_region ?_ | refine wl_nil ?_ | refine then_normal ?_ | refine WP_skip ?_ | refine WP_condF rfl ?_ | (refine g_move ?_; refine st_move rfl ?_) | (refine g_assign ?_; refine st_assign rfl ?_) | (refine g_un ?_; refine st_val rfl (r_not rfl) ?_) | (refine g_callV ?_; (refine st_callV rfl (r_call0 rfl) (sane_spec) ?_; intro w hb; replace S := S.grow hb; clear hb)))
  refine st_callR rfl (r_call4 rfl rfl rfl rfl rfl) (hmade _ S.below) ?_
  rintro _ w hb ⟨v, l, rfl, hnr, hsm⟩; replace S := S.new hb hnr; clear hb hnr
  obtain ⟨Av, cv, rfl⟩ := (S.rdRow (D := fGReading) (i := 0) rfl).len
  obtain ⟨vd0, vd1, vd2, vd3⟩ := valid_parts hsm.valid
  have hl1 : l.length ≤ maxLen := by simp only [maxLen]; omega
  have hrr := readsI_range d l t
  have hinv := fun a h0 h1 => inverse (t := t) (a := a) hsm.valid (by omega) (by omega) h0 h1
  have hrd := fun w (hr : Rd fGReading.ty w (.slice Av l.length cv) l) => reads_spec (w0 := w) hr hl1 id it
  obtain ⟨⟨rf, rl, re⟩, hre⟩ : ∃ z, readsI d l t = z := ⟨_, rfl⟩
  rw [hre] at hrr
  simp only [hre] at hinv hrd
  simp only at hrr
  repeat' (first | refine WP_seq ?_ | refine WP_region ?_ | refine wl_nil ?_ | refine then_normal ?_ | (refine g_move ?_; refine st_move rfl ?_) | (refine g_assign ?_; refine st_assign rfl ?_) | (refine g_b_add ?_; (refine st_val rfl (r_addN rfl rfl ?_ ?_) ?_; (first | omega | (simp <;> omega)); (first | omega | (simp <;> omega)))) | (refine g_b_sub ?_; (refine st_val rfl (r_subN rfl rfl ?_ ?_) ?_; (first | omega | (simp <;> omega)); (first | omega | (simp <;> omega)))) | (refine g_extract ?_; refine st_val rfl (r_extract rfl rfl) ?_) | (refine g_load ?_; refine st_val rfl (r_loadVarA (i := 1) S rfl rfl rfl rfl) ?_) | (refine g_callV ?_; first | (refine st_callV rfl (r_call2 rfl rfl rfl) (pick_is hx (by omega) (by omega) (by omega)) ?_; intro w hb; replace S := S.grow hb; clear hb) | (refine st_callV rfl (r_call2 rfl rfl rfl) (pick_is ht (by omega) (by omega) (by omega)) ?_; intro w hb; replace S := S.grow hb; clear hb) | (refine st_callV rfl (r_call2 rfl rfl rfl) (pick_is hy (by omega) (by omega) (by omega)) ?_; intro w hb; replace S := S.grow hb; clear hb) | (refine st_callV rfl (r_call2 rfl rfl rfl) (hrd _ (S.rdRow (D := fGReading) (i := 0) rfl)) ?_; intro w hb; replace S := S.grow hb; clear hb) | (refine st_callV rfl (r_call4 rfl rfl rfl rfl rfl) (hshown _ S.below) ?_; intro w hb; replace S := S.grow hb; clear hb)) | (refine g_alloc ?_; refine st_valE rfl (r_alloc S) ?_; rintro _ w ⟨b, rfl, -, S'⟩; replace S := S'; clear S') | (refine g_store ?_; first | (refine st_skipE rfl (r_storeVar (i := 0) S rfl rfl rfl rfl (of_decide_eq_true rfl) (of_decide_eq_true rfl)) ?_; intro w S'; replace S := S'; clear S') | (refine st_skipE rfl (r_storeVar (i := 1) S rfl rfl rfl rfl (of_decide_eq_true rfl) (of_decide_eq_true rfl)) ?_; intro w S'; replace S := S'; clear S') | (refine st_skipE rfl (r_storeVar (i := 2) S rfl rfl rfl rfl (of_decide_eq_true rfl) (of_decide_eq_true rfl)) ?_; intro w S'; replace S := S'; clear S')))
  obtain ⟨b14, rfl⟩ : ∃ z, z = b := ⟨_, rfl⟩
  refine st_valE rfl (r_litF (D := fInt .i64) [x, rf - 1, rf, rl, rl + 1, sh + y - 10] (Value.int .i64) S rfl rfl (fun _ => rfl) rfl (by decide) (by decide)) ?_
  rintro _ w ⟨b1, rfl, -, -, S'⟩; replace S := S'; clear S'
  obtain ⟨L, hL⟩ : ∃ L : List Int, L = [x, rf - 1, rf, rl, rl + 1, sh + y - 10] := ⟨_, rfl⟩
  have hL6 : L.length = 6 := by rw [hL]; rfl
  repeat' (first | refine WP_seq ?_ | refine WP_region ?_ | refine wl_nil ?_ | refine then_normal ?_ | refine WP_block ?_ | (refine g_assign ?_; refine st_assign rfl ?_))
  refine WP_loop (fun k σ w1 => ∃ i : Int, Has σ [(5, .int .i64 t), (13, .bool true), (14, .pointer (some ⟨b14, 0, none⟩)), (16, .int .i64 rf), (17, .int .i64 rl), (18, .int .i64 re), (19, .slice (some ⟨b1, 0, none⟩) 6 6), (20, .int .i64 i)] ∧ St w0 w1 [rowOb fGReading 48 (.slice Av l.length cv) l, .var b14 24 [.int .i64 d, .slice Av l.length cv], rowOb (fInt .i64) 3 (.slice (some ⟨b1, 0, none⟩) 6 6) L] ∧ 0 ≤ i ∧ i ≤ 6 ∧ k = 6 - i.toNat) 6 ⟨0, ⟨rfl, rfl, rfl, rfl, rfl, rfl, rfl, rfl, trivial⟩, (by rw [hL]; exact S), by omega, by omega, by omega⟩ ?_
  clear S
  rintro k σ w1 ⟨i, hs', S, a0, a1, rfl⟩
  refine WP_has hs' ?_
  by_cases hi : i < 6
  · by_cases hin : 0 ≤ nth L i ∧ nth L i ≤ 10000000
    · have hv := hinv _ hin.1 hin.2
      have hix : inI (nth L i) := by unfold inI; omega
      repeat' (first | refine WP_seq ?_ | refine WP_region ?_ | refine wl_nil ?_ | refine then_normal ?_ | refine inB_normal ?_ | refine then_ret ?_ | refine inB_ret ?_ | refine WP_ret ?_ | refine WP_skip ?_ | refine WP_block ?_ | refine WP_condF rfl ?_ | refine WP_draw (by kernel_rfl) (by kernel_rfl) ?_ | (refine ql_nil ?_; intro w hb; replace S := S.grow hb; clear hb) | (refine g_guard ?_; refine st_off rfl ?_) | (refine g_move ?_; refine st_move rfl ?_) | (refine g_assign ?_; refine st_assign rfl ?_) | (refine g_pick ?_; first | refine st_pickT rfl rfl ?_ | refine st_pickF rfl rfl ?_) | (refine g_b_add ?_; (refine st_val rfl (r_addN rfl rfl ?_ ?_) ?_; (first | omega | (simp <;> omega)); (first | omega | (simp <;> omega)))) | (refine g_b_eql ?_; refine st_val rfl (r_eql rfl rfl) ?_) | (refine g_b_neq ?_; refine st_val rfl (r_neqB rfl rfl) ?_) | (refine g_b_lss ?_; refine st_val rfl (r_lss rfl rfl) ?_) | (refine g_b_leq ?_; refine st_val rfl (r_leq rfl rfl) ?_) | (refine g_b_gtr ?_; refine st_val rfl (r_gtr rfl rfl) ?_) | (refine g_c_len ?_; refine st_val rfl (r_lenSlice rfl) ?_) | (refine g_indexAddr ?_; (refine st_val rfl (r_indexAddr (S.rdRow (D := (fInt .i64)) (i := 2) rfl) rfl rfl ?_ ?_) ?_; (first | omega | (simp <;> omega)); (first | omega | (simp <;> omega)))) | (refine g_load ?_; (refine st_val rfl (r_loadElem1 (S.rdRow (D := (fInt .i64)) (i := 2) rfl) rfl ?_ ?_ rfl) ?_; (first | omega | (simp <;> omega)); (first | omega | (simp <;> omega)))) | (refine gq_move ?_; refine q_move rfl ?_) | (refine gq_assign ?_; refine q_assign rfl ?_) | (refine gq_extract ?_; refine q_val rfl (fun w' hb => r_extract rfl rfl) ?_) | (refine gq_indexAddr ?_; (refine q_val rfl (fun w' hb => r_indexAddr ((S.grow hb).rdRow (D := (fInt .i64)) (i := 2) rfl) rfl rfl ?_ ?_) ?_; (first | omega | (simp <;> omega)); (first | omega | (simp <;> omega)))) | (refine gq_load ?_; first | (refine q_val rfl (fun w' hb => r_loadElem1 ((S.grow hb).rdRow (D := (fInt .i64)) (i := 2) rfl) rfl ?_ ?_ rfl) ?_; (first | omega | (simp <;> omega)); (first | omega | (simp <;> omega))) | refine q_val rfl (fun w' hb => r_loadVarA (i := 1) (S.grow hb) rfl rfl rfl rfl) ?_) | (refine gq_callV ?_; refine q_callV rfl (fun w' hb => r_call2 rfl rfl rfl) (fun w' hb => at_spec ((S.grow hb).rdRow (D := fGReading) (i := 0) rfl) hl1 id hix) ?_) | (refine wl_split rfl rfl (fun h => ?_) (fun h => ?_) <;> (fail_if_success (have hh : true = true := h)) <;> (try simp only [decide_eq_true_eq, decide_eq_false_iff_not, Bool.not_eq_true', Bool.not_eq_false', Int.not_lt, Int.not_le] at h) <;> (try (exfalso; omega))) | (refine WP_cond rfl (fun h => ?_) (fun h => ?_) <;> (fail_if_success (have hh : true = true := h)) <;> (try simp only [decide_eq_true_eq, decide_eq_false_iff_not, Bool.not_eq_true', Bool.not_eq_false', Int.not_lt, Int.not_le] at h) <;> (try (exfalso; omega))))
      all_goals first
        | (refine ⟨⟨_, ?_, i + 1, ⟨rfl, rfl, rfl, rfl, rfl, rfl, rfl, rfl, trivial⟩, S, by omega, by omega, rfl⟩⟩; omega)
        | (exfalso; simp at h; omega)
        | trace_state
    · repeat' (first | refine WP_seq ?_ | refine WP_region ?_ | refine wl_nil ?_ | refine then_normal ?_ | refine then_exit ?_ | refine inB_here ?_ | refine WP_skip ?_ | refine WP_exit ?_ | refine WP_block ?_ | refine WP_condT rfl ?_ | (refine g_guard ?_; refine st_off rfl ?_) | (refine g_move ?_; refine st_move rfl ?_) | (refine g_assign ?_; refine st_assign rfl ?_) | (refine g_pick ?_; first | refine st_pickT rfl rfl ?_ | refine st_pickF rfl rfl ?_) | (refine g_b_add ?_; (refine st_val rfl (r_addN rfl rfl ?_ ?_) ?_; (first | omega | (simp <;> omega)); (first | omega | (simp <;> omega)))) | (refine g_b_lss ?_; refine st_val rfl (r_lss rfl rfl) ?_) | (refine g_b_gtr ?_; refine st_val rfl (r_gtr rfl rfl) ?_) | (refine g_c_len ?_; refine st_val rfl (r_lenSlice rfl) ?_) | (refine g_indexAddr ?_; (refine st_val rfl (r_indexAddr (S.rdRow (D := (fInt .i64)) (i := 2) rfl) rfl rfl ?_ ?_) ?_; (first | omega | (simp <;> omega)); (first | omega | (simp <;> omega)))) | (refine g_load ?_; (refine st_val rfl (r_loadElem1 (S.rdRow (D := (fInt .i64)) (i := 2) rfl) rfl ?_ ?_ rfl) ?_; (first | omega | (simp <;> omega)); (first | omega | (simp <;> omega)))) | (refine wl_split rfl rfl (fun h => ?_) (fun h => ?_) <;> (fail_if_success (have hh : true = true := h)) <;> (try simp only [decide_eq_true_eq, decide_eq_false_iff_not, Bool.not_eq_true', Bool.not_eq_false', Int.not_lt, Int.not_le] at h) <;> (try (exfalso; omega))) | (refine WP_cond rfl (fun h => ?_) (fun h => ?_) <;> (fail_if_success (have hh : true = true := h)) <;> (try simp only [decide_eq_true_eq, decide_eq_false_iff_not, Bool.not_eq_true', Bool.not_eq_false', Int.not_lt, Int.not_le] at h) <;> (try (exfalso; omega))))
      all_goals first
        | (refine ⟨⟨_, ?_, i + 1, ⟨rfl, rfl, rfl, rfl, rfl, rfl, rfl, rfl, trivial⟩, S, by omega, by omega, rfl⟩⟩; omega)
        | (exfalso; omega)
        | trace_state
  · repeat' (first | refine WP_seq ?_ | refine WP_region ?_ | refine wl_nil ?_ | refine then_normal ?_ | refine then_exit ?_ | refine inB_here ?_ | refine WP_ret ?_ | refine WP_exit ?_ | (refine g_move ?_; refine st_move rfl ?_) | (refine g_assign ?_; refine st_assign rfl ?_) | (refine g_b_lss ?_; refine st_val rfl (r_lss rfl rfl) ?_) | (refine g_c_len ?_; refine st_val rfl (r_lenSlice rfl) ?_) | (refine WP_cond rfl (fun h => ?_) (fun h => ?_) <;> (fail_if_success (have hh : true = true := h)) <;> (try simp only [decide_eq_true_eq, decide_eq_false_iff_not, Bool.not_eq_true', Bool.not_eq_false', Int.not_lt, Int.not_le] at h) <;> (try (exfalso; omega))))
    exact end1 rfl rfl ⟨rfl, S.below⟩
end Go.Proofs.Ytgphmhpcaeiglaa
