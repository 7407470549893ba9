import Derived.Test.YteplelijhkmbkaaDoorU
namespace Go.Proofs.YteplelijhkmbkaaDoor
open Go Go.Gx Go.RowKit
set_option linter.unusedVariables false
set_option linter.unusedSimpArgs false

theorem rsn_found {l : List GContract} {cnt : List GSpot} {x : GSpot} (h : rsn l cnt x = 0) : cFind l x.Contract ≠ none := by
  intro hn; unfold rsn at h; rw [hn] at h; simp at h
theorem outOf_found {l : List GContract} {sp : List GSpot} (turn : List Int) : ∀ s ∈ spAt sp (outOf l sp turn), cFind l s.Contract ≠ none := by
  have key : ∀ (t : List Int) (o : List Int), (∀ s ∈ spAt sp o, cFind l s.Contract ≠ none) → ∀ s ∈ spAt sp (t.foldl (stepO l sp) o), cFind l s.Contract ≠ none := by
    intro t
    induction t with
    | nil => intro o h; exact h
    | cons a t ih =>
      intro o h
      refine ih _ fun s hs => ?_
      unfold stepO at hs
      split at hs
      · rename_i h0
        unfold spAt at hs
        rw [List.map_append] at hs
        rcases List.mem_append.1 hs with hs | hs
        · exact h s hs
        · rw [List.mem_singleton.1 hs]; exact rsn_found h0
      · exact h s hs
  exact key turn [] (fun s hs => by cases hs)
theorem validR_is {v : Value} {l : List GContract} {b : Bool} {w0 : World} (h : validC l = b) (hr : Rd fGContract.ty w0 v l) (hl : l.length ≤ 1000000000) : CallsV Tryd.prog 16 #[v] w0 (.bool b) := by rw [← h]; exact validR_spec hr hl
theorem validSpotsR_is {v : Value} {l : List GSpot} {b : Bool} {w0 : World} (h : validP l = b) (hr : Rd fGSpot.ty w0 v l) (hl : l.length ≤ 1000000000) : CallsV Tryd.prog 20 #[v] w0 (.bool b) := by rw [← h]; exact validSpotsR_spec hr hl
theorem spot_is {x : GSpot} {b : Bool} {w0 : World} (h : okP x = b) : CallsV Tryd.prog 42 #[.agg x.enc.toArray] w0 (.bool b) := by rw [← h]; exact spot_spec
theorem reasonR_is {v1 v2 v3 : Value} {l : List GContract} {sp : List GSpot} {out : List Int} {x : GSpot} {z : Int} {w0 : World} (hz : rsn l (spAt sp out) x = z) (hr1 : Rd fGContract.ty w0 v1 l) (hr2 : Rd fGSpot.ty w0 v2 sp) (hr3 : Rd (fInt .i64).ty w0 v3 out) (hl : l.length ≤ 1000000000) (hl2 : sp.length ≤ 1000000000) (hl3 : out.length ≤ 1000000000)
    (hx : 0 ≤ x.At ∧ x.At ≤ 9999999) (hsp : ∀ s ∈ sp, 0 ≤ s.At ∧ s.At ≤ 9999999) (ho : ∀ x ∈ out, 0 ≤ x ∧ x < sp.length) (hf : ∀ s ∈ spAt sp out, cFind l s.Contract ≠ none) :
    CallsV Tryd.prog 38 #[v1, v2, v3, .agg x.enc.toArray] w0 (.int .i64 z) := by rw [← hz]; exact reasonR_spec hr1 hr2 hr3 hl hl2 hl3 hx hsp ho hf
set_option maxHeartbeats 1000000 in
theorem countedR_run {l : List GContract} {sp : List GSpot} {v1 v2 : Value} {w0 : World} (hr1 : Rd fGContract.ty w0 v1 l) (hr2 : Rd fGSpot.ty w0 v2 sp) (hl : l.length ≤ 1000000000) (hl2 : sp.length ≤ 1000000000) :
    CallsR Tryd.prog 18 #[v1, v2] w0 (RowE w0 (countedI l sp)) := by
  have S := St.start w0
  obtain ⟨A, c1, rfl⟩ := hr1.len
  obtain ⟨A2, c2, rfl⟩ := hr2.len
  refine CallsR.mk ?_
  refine calls_enter Tryd.func18 rfl (by intro _ h; first | exact nomatch h.1 | (obtain ⟨_, h, _⟩ := h; exact nomatch h)) Tryd.ntmps18 rfl ?_
  by_cases h1 : validC l = true
  · by_cases h2 : validP sp = true
    · have h : okI l sp = true := by unfold okI; rw [h1, h2]; rfl
      have ec : countedI l sp = (cntI l sp, 0) := by unfold countedI; rw [h]; rfl
      rw [ec]
      have hp60 := validP_len h2
      have hl12 := validC_len h1
      have hsp : ∀ s ∈ sp, 0 ≤ s.At ∧ s.At ≤ 9999999 := fun s hs => (validP_at h2 hs).2.2
      repeat' (first | refine WP_seq ?_ | refine WP_region ?_ | refine wl_nil ?_ | refine then_normal ?_ | refine WP_skip ?_ | refine WP_condF rfl ?_ | (refine g_move ?_; refine st_move rfl ?_) | (refine g_assign ?_; refine st_assign rfl ?_) | (refine g_pick ?_; refine st_pickF rfl rfl ?_) | (refine g_un ?_; refine st_val rfl (r_not rfl) ?_) | (refine g_callV ?_; first | (refine st_callV rfl (r_call1 rfl rfl) (validR_is h1 (hr1.mono S.below) hl) ?_; intro w hb; replace S := S.grow hb; clear hb) | (refine st_callV rfl (r_call1 rfl rfl) (validSpotsR_is h2 (hr2.mono S.below) hl2) ?_; intro w hb; replace S := S.grow hb; clear hb)))
      refine st_callR rfl (r_call1 rfl rfl) (order_run (hr2.mono S.below) (by omega)) ?_
      rintro vt w hb hrow; replace S := S.new hb hrow; clear hb hrow
      obtain ⟨turn, ht⟩ : ∃ turn, ordI sp = turn := ⟨_, rfl⟩
      have hO : Ord sp turn := by rw [← ht]; exact ordI_ok sp
      have hOl := hO.len
      rw [ht] at S
      replace S : St w0 w [rowOb (fInt .i64) 3 vt turn] := S
      obtain ⟨A3, c3, hz⟩ := (S.rdRow (D := fInt .i64) (i := 0) rfl).len; subst hz
      repeat' (first | refine WP_seq ?_ | refine WP_region ?_ | refine wl_nil ?_ | refine then_normal ?_ | refine WP_block ?_ | (refine g_assign ?_; refine st_assign rfl ?_))
      replace S := S.nilRow (fInt .i64) 3
      refine WP_loop (fun m σ w1 => ∃ (i : Int) (vo : Value) (out : List Int), Has σ [(0, .slice A l.length c1), (1, .slice A2 sp.length c2), (6, vo), (7, .slice A3 turn.length c3), (8, .int .i64 i)] ∧ St w0 w1 [rowOb (fInt .i64) 3 (.slice A3 turn.length c3) turn, rowOb (fInt .i64) 3 vo out] ∧ 0 ≤ i ∧ i ≤ turn.length ∧ out = outOf l sp (turn.take i.toNat) ∧ m = turn.length - i.toNat) turn.length ⟨0, _, [], ⟨rfl, rfl, rfl, rfl, rfl, trivial⟩, S, by omega, by omega, rfl, by omega⟩ ?_
      clear S
      rintro m σ w1 ⟨i, vo, out, hs, S, hi0, hi1, hout, hm⟩
      refine WP_has hs ?_
      have hol : out.length ≤ 60 := by
        have := outOf_len (l := l) (sp := sp) (turn.take i.toNat)
        rw [List.length_take] at this; rw [hout]; omega
      have hom : ∀ x ∈ out, 0 ≤ x ∧ x < sp.length := by
        rw [hout]; exact fun x hx => hO.mem (List.mem_of_mem_take (outOf_mem hx))
      have hf : ∀ s ∈ spAt sp out, cFind l s.Contract ≠ none := by rw [hout]; exact outOf_found _
      by_cases hi : i < turn.length
      · have hjr := hO.mem (nth_mem hi0 hi)
        have hxr := hsp _ (nth_mem hjr.1 hjr.2)
        have hstep : outOf l sp (turn.take (i + 1).toNat) = if rsn l (spAt sp out) (nth sp (nth turn i)) = 0 then out ++ [nth turn i] else out := by
          rw [foldl_at hi0 hi, ← hout]; rfl
        obtain ⟨A4, c4, hz⟩ := (S.rdRow (D := fInt .i64) (i := 1) rfl).len; subst hz
        obtain ⟨z, hzz⟩ : ∃ z, rsn l (spAt sp out) (nth sp (nth turn i)) = z := ⟨_, rfl⟩
        rw [hzz] at hstep
        by_cases h0 : z = 0
        · rw [if_pos h0] at hstep
          subst h0
          repeat' (first | refine WP_seq ?_ | refine WP_region ?_ | refine wl_nil ?_ | refine then_normal ?_ | refine WP_skip ?_ | refine WP_block ?_ | refine WP_condT rfl ?_ | (refine g_move ?_; refine st_move rfl ?_) | (refine g_b_eql ?_; refine st_val rfl (r_eql rfl rfl) ?_) | (refine g_b_lss ?_; refine st_val rfl (r_lss rfl rfl) ?_) | (refine g_c_len ?_; refine st_val rfl (r_lenSlice rfl) ?_) | (refine g_indexAddr ?_; first | (refine st_val rfl (r_indexAddr (hr2.mono S.below) rfl rfl ?_ ?_) ?_; (first | omega | (simp <;> omega)); (first | omega | (simp <;> omega))) | (refine st_val rfl (r_indexAddr (S.rdRow (D := (fInt .i64)) (i := 0) rfl) rfl rfl ?_ ?_) ?_; (first | omega | (simp <;> omega)); (first | omega | (simp <;> omega)))) | (refine g_load ?_; first | (refine st_val rfl (r_loadElem (hr2.mono S.below) rfl ?_ ?_) ?_; (first | omega | (simp <;> omega)); (first | omega | (simp <;> omega))) | (refine st_val rfl (r_loadElem1 (S.rdRow (D := (fInt .i64)) (i := 0) rfl) rfl ?_ ?_ rfl) ?_; (first | omega | (simp <;> omega)); (first | omega | (simp <;> omega)))) | (refine g_callV ?_; (refine st_callV rfl (r_call4 rfl rfl rfl rfl rfl) (reasonR_is hzz (hr1.mono S.below) (hr2.mono S.below) (S.rdRow (D := fInt .i64) (i := 1) rfl) hl hl2 (by omega) hxr hsp hom hf) ?_; intro w hb; replace S := S.grow hb; clear hb)) | (refine WP_cond rfl (fun h => ?_) (fun h => ?_) <;> (fail_if_success (have hh : true = true := h)) <;> (fail_if_success (have hh : false = false := h)) <;> (try simp only [decide_eq_true_eq, decide_eq_false_iff_not, Bool.not_eq_true', Bool.not_eq_false', Int.not_lt, Int.not_le] at h) <;> (try (exfalso; omega))))
          refine st_valE rfl (r_litF (D := fInt .i64) [nth turn i] (Value.int .i64) S rfl rfl (fun _ => rfl) rfl (by decide) (by decide)) ?_
          rintro _ w ⟨bl, rfl, -, hcl, S'⟩; replace S := S'; clear S'
          refine st_valE rfl (r_append1 (D := fInt .i64) (i := 1) (b := bl) (x := nth turn i) S rfl rfl rfl (fl_one hcl) rfl (by decide) (of_decide_eq_true rfl) (by omega) (by omega)) ?_
          rintro vo' w ⟨-, S'⟩; replace S := S'; clear S' hcl
          repeat' (first | refine WP_region ?_ | refine wl_nil ?_ | refine then_normal ?_ | refine inB_normal ?_ | (refine g_move ?_; refine st_move rfl ?_) | (refine g_assign ?_; refine st_assign rfl ?_) | (refine g_b_add ?_; (refine st_val rfl (r_addN rfl rfl ?_ ?_) ?_; (first | omega | (simp <;> omega)); (first | omega | (simp <;> omega)))))
          refine ⟨⟨_, ?_, i + 1, vo', _, ⟨rfl, rfl, rfl, rfl, rfl, trivial⟩, S.keep [true, true], by omega, by omega, hstep.symm, rfl⟩⟩
          omega
        · rw [if_neg h0] at hstep
          repeat' (first | refine WP_seq ?_ | refine WP_region ?_ | refine wl_nil ?_ | refine then_normal ?_ | refine inB_normal ?_ | refine WP_skip ?_ | refine WP_block ?_ | (refine g_move ?_; refine st_move rfl ?_) | (refine g_assign ?_; refine st_assign rfl ?_) | (refine g_b_add ?_; (refine st_val rfl (r_addN rfl rfl ?_ ?_) ?_; (first | omega | (simp <;> omega)); (first | omega | (simp <;> omega)))) | (refine g_b_eql ?_; refine st_val rfl (r_eql rfl rfl) ?_) | (refine g_b_lss ?_; refine st_val rfl (r_lss rfl rfl) ?_) | (refine g_c_len ?_; refine st_val rfl (r_lenSlice rfl) ?_) | (refine g_indexAddr ?_; first | (refine st_val rfl (r_indexAddr (hr2.mono S.below) rfl rfl ?_ ?_) ?_; (first | omega | (simp <;> omega)); (first | omega | (simp <;> omega))) | (refine st_val rfl (r_indexAddr (S.rdRow (D := (fInt .i64)) (i := 0) rfl) rfl rfl ?_ ?_) ?_; (first | omega | (simp <;> omega)); (first | omega | (simp <;> omega)))) | (refine g_load ?_; first | (refine st_val rfl (r_loadElem (hr2.mono S.below) rfl ?_ ?_) ?_; (first | omega | (simp <;> omega)); (first | omega | (simp <;> omega))) | (refine st_val rfl (r_loadElem1 (S.rdRow (D := (fInt .i64)) (i := 0) rfl) rfl ?_ ?_ rfl) ?_; (first | omega | (simp <;> omega)); (first | omega | (simp <;> omega)))) | (refine g_callV ?_; (refine st_callV rfl (r_call4 rfl rfl rfl rfl rfl) (reasonR_is hzz (hr1.mono S.below) (hr2.mono S.below) (S.rdRow (D := fInt .i64) (i := 1) rfl) hl hl2 (by omega) hxr hsp hom hf) ?_; intro w hb; replace S := S.grow hb; clear hb)) | (refine WP_cond rfl (fun h => ?_) (fun h => ?_) <;> (fail_if_success (have hh : true = true := h)) <;> (fail_if_success (have hh : false = false := h)) <;> (try simp only [decide_eq_true_eq, decide_eq_false_iff_not, Bool.not_eq_true', Bool.not_eq_false', Int.not_lt, Int.not_le] at h) <;> (try (exfalso; omega))))
          refine ⟨⟨_, ?_, i + 1, _, _, ⟨rfl, rfl, rfl, rfl, rfl, trivial⟩, S.keep [true, true], by omega, by omega, hstep.symm, rfl⟩⟩
          omega
      · have hit : i.toNat = turn.length := by omega
        rw [hit, List.take_length, ← ht] at hout
        subst hout
        repeat' (first | refine WP_seq ?_ | refine WP_region ?_ | refine wl_nil ?_ | refine then_normal ?_ | refine then_exit ?_ | refine inB_here ?_ | refine WP_ret ?_ | refine WP_exit ?_ | (refine g_move ?_; refine st_move rfl ?_) | (refine g_assign ?_; refine st_assign rfl ?_) | (refine g_b_lss ?_; refine st_val rfl (r_lss rfl rfl) ?_) | (refine g_c_len ?_; refine st_val rfl (r_lenSlice rfl) ?_) | (refine WP_cond rfl (fun h => ?_) (fun h => ?_) <;> (fail_if_success (have hh : true = true := h)) <;> (fail_if_success (have hh : false = false := h)) <;> (try simp only [decide_eq_true_eq, decide_eq_false_iff_not, Bool.not_eq_true', Bool.not_eq_false', Int.not_lt, Int.not_le] at h) <;> (try (exfalso; omega))))
        exact end2 rfl rfl rfl ⟨_, rfl, S.below, vo, rfl, S.row (i := 1) rfl⟩
    · have h2' : validP sp = false := by simpa using h2
      have ec : countedI l sp = ([], 120) := by unfold countedI okI; rw [h1, h2']; rfl
      rw [ec]
      repeat' (first | refine WP_seq ?_ | refine WP_region ?_ | refine wl_nil ?_ | refine then_normal ?_ | refine then_ret ?_ | refine WP_ret ?_ | refine WP_condT rfl ?_ | (refine g_move ?_; refine st_move rfl ?_) | (refine g_assign ?_; refine st_assign rfl ?_) | (refine g_pick ?_; refine st_pickF rfl rfl ?_) | (refine g_un ?_; refine st_val rfl (r_not rfl) ?_) | (refine g_callV ?_; first | (refine st_callV rfl (r_call1 rfl rfl) (validR_is h1 (hr1.mono S.below) hl) ?_; intro w hb; replace S := S.grow hb; clear hb) | (refine st_callV rfl (r_call1 rfl rfl) (validSpotsR_is h2' (hr2.mono S.below) hl2) ?_; intro w hb; replace S := S.grow hb; clear hb)))
      exact end2 rfl rfl rfl ⟨_, rfl, S.below, _, rfl, NewRow.nil _ _ _ _⟩
  · have h1' : validC l = false := by simpa using h1
    have ec : countedI l sp = ([], 120) := by unfold countedI okI; rw [h1']; rfl
    rw [ec]
    repeat' (first | refine WP_seq ?_ | refine WP_region ?_ | refine wl_nil ?_ | refine then_normal ?_ | refine then_ret ?_ | refine WP_ret ?_ | refine WP_condT rfl ?_ | (refine g_guard ?_; refine st_off rfl ?_) | (refine g_move ?_; refine st_move rfl ?_) | (refine g_assign ?_; refine st_assign rfl ?_) | (refine g_pick ?_; refine st_pickT rfl rfl ?_) | (refine g_un ?_; refine st_val rfl (r_not rfl) ?_) | (refine g_callV ?_; (refine st_callV rfl (r_call1 rfl rfl) (validR_is h1' (hr1.mono S.below) hl) ?_; intro w hb; replace S := S.grow hb; clear hb)))
    exact end2 rfl rfl rfl ⟨_, rfl, S.below, _, rfl, NewRow.nil _ _ _ _⟩
theorem cntI_found (l : List GContract) (sp : List GSpot) : ∀ s ∈ cntS l sp, cFind l s.Contract ≠ none := outOf_found _
theorem okP_sp {l : List GContract} {sp : List GSpot} (h : okI l sp = true) : ∀ s ∈ sp, 0 ≤ s.At ∧ s.At ≤ 9999999 := fun s hs => (validP_at (okI_t h).2 hs).2.2
theorem reasonRR_run {l : List GContract} {sp : List GSpot} {x : GSpot} {v1 v2 : Value} {w0 : World} (hr1 : Rd fGContract.ty w0 v1 l) (hr2 : Rd fGSpot.ty w0 v2 sp) (hl : l.length ≤ 1000000000) (hl2 : sp.length ≤ 1000000000) :
    CallsV Tryd.prog 27 #[v1, v2, .agg x.enc.toArray] w0 (.tuple #[.int .i64 (reasonI l sp x).1, .int .i64 (reasonI l sp x).2]) := by
  have S := St.start w0
  refine CallsV.mk ?_
  refine calls_enter Tryd.func27 rfl (by intro _ h; first | exact nomatch h.1 | (obtain ⟨_, h, _⟩ := h; exact nomatch h)) Tryd.ntmps27 rfl ?_
  repeat' (first | refine WP_seq ?_ | refine WP_region ?_ | refine wl_nil ?_ | refine then_normal ?_ | (refine g_move ?_; refine st_move rfl ?_) | (refine g_assign ?_; refine st_assign rfl ?_) | (refine g_box ?_; refine st_valE rfl (r_box S rfl) ?_; rintro _ w ⟨b, rfl, -, S'⟩; replace S := S'; clear S'))
  refine st_callR rfl (r_call2 rfl rfl rfl) (countedR_run (hr1.mono S.below) (hr2.mono S.below) hl hl2) ?_
  rintro _ w hb ⟨vo, rfl, hrow⟩; replace S := S.new hb hrow; clear hb hrow
  cases h : okI l sp with
  | false =>
    have ec : countedI l sp = ([], 120) := by unfold countedI; rw [h]; rfl
    rw [ec] at S ⊢
    repeat' (first | refine WP_seq ?_ | refine WP_region ?_ | refine wl_nil ?_ | refine then_normal ?_ | refine then_ret ?_ | refine WP_ret ?_ | refine WP_condT rfl ?_ | (refine g_guard ?_; refine st_off rfl ?_) | (refine g_move ?_; refine st_move rfl ?_) | (refine g_assign ?_; refine st_assign rfl ?_) | (refine g_pick ?_; refine st_pickT rfl rfl ?_) | (refine g_b_neq ?_; refine st_val rfl (r_neq rfl rfl) ?_) | (refine g_extract ?_; refine st_val rfl (r_extract rfl rfl) ?_))
    exact end2 rfl rfl rfl ⟨by unfold reasonI; rw [h]; rfl, S.below⟩
  | true =>
    have ec : countedI l sp = (cntI l sp, 0) := by unfold countedI; rw [h]; rfl
    rw [ec] at S ⊢
    have hp60 := validP_len (okI_t h).2
    have hcl := cntI_len l sp
    cases hx : okP x with
    | false =>
      repeat' (first | refine WP_seq ?_ | refine WP_region ?_ | refine wl_nil ?_ | refine then_normal ?_ | refine then_ret ?_ | refine WP_ret ?_ | refine WP_condT rfl ?_ | (refine g_move ?_; refine st_move rfl ?_) | (refine g_assign ?_; refine st_assign rfl ?_) | (refine g_pick ?_; refine st_pickF rfl rfl ?_) | (refine g_b_neq ?_; refine st_val rfl (r_neq rfl rfl) ?_) | (refine g_un ?_; refine st_val rfl (r_not rfl) ?_) | (refine g_extract ?_; refine st_val rfl (r_extract rfl rfl) ?_) | (refine g_load ?_; refine st_val rfl (r_loadVarA (i := 0) S rfl rfl rfl rfl) ?_) | (refine g_callV ?_; (refine st_callV rfl (r_call1 rfl rfl) (spot_is hx) ?_; intro w hb; replace S := S.grow hb; clear hb)))
      exact end2 rfl rfl rfl ⟨by unfold reasonI; rw [h, hx]; rfl, S.below⟩
    | true =>
      have hxr : 0 ≤ x.Contract ∧ x.Contract ≤ 99 ∧ 0 ≤ x.At ∧ x.At ≤ 9999999 := of_decide_eq_true hx
      repeat' (first | refine WP_seq ?_ | refine WP_region ?_ | refine wl_nil ?_ | refine then_normal ?_ | refine WP_ret ?_ | refine WP_skip ?_ | refine WP_condF rfl ?_ | (refine g_move ?_; refine st_move rfl ?_) | (refine g_assign ?_; refine st_assign rfl ?_) | (refine g_pick ?_; refine st_pickF rfl rfl ?_) | (refine g_b_neq ?_; refine st_val rfl (r_neq rfl rfl) ?_) | (refine g_un ?_; refine st_val rfl (r_not rfl) ?_) | (refine g_extract ?_; refine st_val rfl (r_extract rfl rfl) ?_) | (refine g_load ?_; refine st_val rfl (r_loadVarA (i := 0) S rfl rfl rfl rfl) ?_) | (refine g_callV ?_; first | (refine st_callV rfl (r_call1 rfl rfl) (spot_is hx) ?_; intro w hb; replace S := S.grow hb; clear hb) | (refine st_callV rfl (r_call4 rfl rfl rfl rfl rfl) (reasonR_spec (x := x) (hr1.mono S.below) (hr2.mono S.below) (S.rdRow (D := fInt .i64) (i := 1) rfl) hl hl2 (by show (cntI l sp).length ≤ 1000000000; omega) hxr.2.2 (okP_sp h) (fun y hy => cntI_mem hy) (cntI_found l sp)) ?_; intro w hb; replace S := S.grow hb; clear hb)))
      exact end2 rfl rfl rfl ⟨by unfold reasonI; rw [h, hx]; rfl, S.below⟩
end Go.Proofs.YteplelijhkmbkaaDoor
