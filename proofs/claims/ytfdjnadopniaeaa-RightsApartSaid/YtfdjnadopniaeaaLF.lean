import Derived.Test.YtfdjnadopniaeaaLE
namespace Go.Proofs.Ytfdjnadopniaeaa
open Go Go.Gx Go.RowKit
open Kuhn
set_option linter.unusedVariables false
set_option linter.unusedSimpArgs false
theorem madeU_item (ys : List GArr4Int) : ∀ u ∈ madeU ys, 0 ≤ u.Item ∧ u.Item ≤ 2 := fun u hu => by
  unfold madeU at hu
  obtain ⟨x, hx, rfl⟩ := List.mem_map.1 hu
  have p0 := pickI_range (c := x.a0) (n := 3) (by omega)
  show 0 ≤ pickI x.a0 3 ∧ pickI x.a0 3 ≤ 2
  omega
abbrev itemL (us : List GUse) (n : Int) : List GUse := us.filter fun u => decide (u.Item = n)
theorem itemL_len (us : List GUse) (n : Int) : (itemL us n).length ≤ us.length := List.length_filter_le _ _
theorem validU_item {us : List GUse} (h : validU us = true) (n : Int) : validU (itemL us n) = true := by
  unfold validU at h ⊢
  rw [Bool.and_eq_true, List.all_eq_true] at h ⊢
  have := of_decide_eq_true h.1
  have := itemL_len us n
  exact ⟨decide_eq_true (by omega), fun u hu => h.2 u (List.mem_filter.1 hu).1⟩
/-- Whether the uses of the items below n can be assigned on their own. -/
def allN (l : List GGrant) (us : List GUse) (n : Nat) : Bool := (List.range n).all fun k => asgL l (itemL us k)
theorem allN_succ (l : List GGrant) (us : List GUse) (n : Nat) : allN l us (n + 1) = (allN l us n && asgL l (itemL us n)) := by
  simp [allN, List.range_succ]
theorem allN_three {l : List GGrant} {us : List GUse} (hi : ∀ u ∈ us, 0 ≤ u.Item ∧ u.Item ≤ 2) : allN l us 3 = asgL l us := by
  rw [Bool.eq_iff_iff, apart_iff hi]
  simp [allN, List.range_succ, and_assoc]
set_option maxRecDepth 20000 in
set_option maxHeartbeats 16000000 in
theorem rightsApart_spec {vx vy : Value} {xs : List GArr5Int} {ys : List GArr4Int} {w0 : World} (hrx : Rd fGArr5Int.ty w0 vx xs) (hx : ∀ x ∈ xs, okA5 x) (hxl : xs.length ≤ maxLen) (hry : Rd fGArr4Int.ty w0 vy ys) (hy : ∀ x ∈ ys, okA4 x) (hyl : ys.length ≤ maxLen) :
    CallsV Try.prog 9 #[vx, vy] w0 (.bool true) := by
  have S := St.start w0
  obtain ⟨l, hl⟩ : ∃ l, madeG xs = l := ⟨_, rfl⟩
  obtain ⟨us, hu⟩ : ∃ us, madeU ys = us := ⟨_, rfl⟩
  have vl := madeG_ok xs
  have vu := madeU_ok ys
  have ll := madeG_len xs
  have lu := madeU_len ys
  have it := madeU_item ys
  rw [hl] at vl ll
  rw [hu] at vu lu it
  have h3 := allN_three (l := l) it
  obtain ⟨e0, he⟩ : ∃ e, (asnI l us).2 = e := ⟨_, rfl⟩
  have hc := asn_code vl vu
  rw [he] at hc
  refine CallsV.mk ?_
  refine calls_enter Try.func9 rfl (by intro _ h; first | exact nomatch h.1 | (obtain ⟨_, h, _⟩ := h; exact nomatch h)) Try.ntmps9 rfl ?_
  repeat' (first | refine WP_seq ?_ | refine WP_region ?_ | refine wl_nil ?_ | refine then_normal ?_ | refine WP_skip ?_ | refine WP_condF rfl ?_ | (refine g_move ?_; refine st_move rfl ?_) | (refine g_assign ?_; refine st_assign rfl ?_) | (refine g_un ?_; refine st_val rfl (r_not rfl) ?_) | (refine g_callV ?_; (refine st_callV rfl (r_call0 rfl) (sane_spec) ?_; intro w hb; replace S := S.grow hb; clear hb)))
  refine st_callR rfl (r_call1 rfl rfl) (made_run (hrx.mono S.below) hx hxl) ?_; rintro vL w hb hrow; replace S := S.new hb hrow; clear hb hrow
  repeat' (first | refine WP_seq ?_ | refine WP_region ?_ | refine wl_nil ?_ | refine then_normal ?_ | (refine g_move ?_; refine st_move rfl ?_) | (refine g_assign ?_; refine st_assign rfl ?_))
  refine st_callR rfl (r_call1 rfl rfl) (madeUses_run (hry.mono S.below) hy hyl) ?_; rintro vU w hb hrow; replace S := S.new hb hrow; clear hb hrow
  rw [hl, hu] at S
  obtain ⟨AU, cU, hz⟩ := (S.rdRow (D := fGUse) (i := 1) rfl).len; subst hz
  repeat' (first | refine WP_seq ?_ | refine WP_region ?_ | refine wl_nil ?_ | refine then_normal ?_ | (refine g_move ?_; refine st_move rfl ?_) | (refine g_assign ?_; refine st_assign rfl ?_))
  refine st_callR rfl (r_call2 rfl rfl rfl) (assign_run (S.rdRow (D := fGGrant) (i := 0) rfl) (S.rdRow (D := fGUse) (i := 1) rfl) (by omega) (by omega)) ?_; rintro v w hb ⟨vS, rfl, hrow⟩; replace S := S.new hb hrow; clear hb hrow
  rw [he]
  repeat' (first | refine WP_seq ?_ | refine WP_region ?_ | refine wl_nil ?_ | refine then_normal ?_ | refine WP_block ?_ | (refine g_move ?_; refine st_move rfl ?_) | (refine g_assign ?_; refine st_assign rfl ?_) | (refine g_extract ?_; refine st_val rfl (r_extract rfl rfl) ?_))
  refine WP_loop (fun k σ w1 => ∃ n : Nat, Has σ [(6, vL), (7, .slice AU us.length cU), (9, .int .i64 e0), (10, .bool (allN l us n)), (11, .int .i64 (n : Int))] ∧ St w0 w1 [rowOb fGGrant 52 vL l, rowOb fGUse 46 (.slice AU us.length cU) us] ∧ n ≤ 3 ∧ k = 3 - n) 3 ⟨0, ⟨rfl, rfl, rfl, rfl, rfl, trivial⟩, S.keep [true, true, false], by omega, by omega⟩ ?_
  clear S
  rintro k σ w1 ⟨n, hsl, S, hn3, rfl⟩
  refine WP_has hsl ?_
  by_cases hn : n < 3
  · repeat' (first | refine WP_seq ?_ | refine WP_region ?_ | refine wl_nil ?_ | refine then_normal ?_ | (refine g_move ?_; refine st_move rfl ?_) | (refine g_b_lss ?_; refine st_val rfl (r_lss rfl rfl) ?_))
    refine WP_cond rfl (fun _ => ?_) (fun h => absurd (of_decide_eq_false h) (by omega))
    repeat' (first | refine WP_seq ?_ | refine WP_region ?_ | refine wl_nil ?_ | refine then_normal ?_ | refine WP_skip ?_ | refine WP_block ?_ | (refine g_assign ?_; refine st_assign rfl ?_))
    refine WP_loop (fun kk σ w1 => ∃ (i : Int) (vs : Value), Has σ [(6, vL), (7, .slice AU us.length cU), (9, .int .i64 e0), (10, .bool (allN l us n)), (11, .int .i64 (n : Int)), (12, vs), (13, .int .i64 i)] ∧ St w0 w1 [rowOb fGGrant 52 vL l, rowOb fGUse 46 (.slice AU us.length cU) us, rowOb fGUse 46 vs (itemL (us.take i.toNat) n)] ∧ 0 ≤ i ∧ i ≤ us.length ∧ kk = us.length - i.toNat) us.length ⟨0, _, ⟨rfl, rfl, rfl, rfl, rfl, rfl, rfl, trivial⟩, S.nilRow fGUse 46, by omega, by omega, by omega⟩ ?_
    clear S
    rintro kk σ w1 ⟨i, vs, hsl, S, hi0, hi1, rfl⟩
    refine WP_has hsl ?_
    by_cases hi : i < us.length
    · have q1 := itemL_len (us.take i.toNat) n
      rw [List.length_take] at q1
      have ea := take_nth hi0 hi
      by_cases hit : (nth us i).Item = n
      · have e1 : itemL (us.take i.toNat) n ++ [nth us i] = itemL (us.take (i + 1).toNat) n := by rw [ea]; simp [itemL, List.filter_append, hit]
        repeat' (first | refine WP_seq ?_ | refine WP_region ?_ | refine wl_nil ?_ | refine then_normal ?_ | refine WP_skip ?_ | refine WP_block ?_ | (refine g_move ?_; refine st_move rfl ?_) | (refine g_b_eql ?_; refine st_val rfl (r_eql rfl rfl) ?_) | (refine g_b_lss ?_; refine st_val rfl (r_lss rfl rfl) ?_) | (refine g_c_len ?_; refine st_val rfl (r_lenSlice rfl) ?_) | (refine g_fieldAddr ?_; refine st_val rfl (r_fieldAddr rfl) ?_) | (refine g_indexAddr ?_; (refine st_val rfl (r_indexAddr (S.rdRow (D := fGUse) (i := 1) rfl) rfl rfl ?_ ?_) ?_; (first | omega | (simp <;> omega)); (first | omega | (simp <;> omega)))) | (refine g_load ?_; first | (refine st_val rfl (r_loadElem (S.rdRow (D := fGUse) (i := 1) rfl) rfl ?_ ?_) ?_; (first | omega | (simp <;> omega)); (first | omega | (simp <;> omega))) | (refine st_val rfl (r_loadElem1 (S.rdRow (D := fGUse) (i := 1) rfl) rfl ?_ ?_ rfl) ?_; (first | omega | (simp <;> omega)); (first | omega | (simp <;> omega)))) | (refine WP_cond rfl (fun h => ?_) (fun h => ?_) <;> (fail_if_success (have hh : true = true := h)) <;> (fail_if_success (have hh : false = false := h)) <;> (try simp only [decide_eq_true_eq, decide_eq_false_iff_not, Bool.not_eq_true', Bool.not_eq_false', Int.not_lt, Int.not_le] at h) <;> (try (exfalso; omega))))
        refine st_valE rfl (r_litF (D := fGUse) [nth us i] (fun x => .agg x.enc.toArray) S rfl rfl (fun _ => rfl) rfl (by decide) (by decide)) ?_
        rintro _ w ⟨bl, rfl, -, -, S'⟩; replace S := S'; clear S'
        refine st_valE rfl (r_appendRd (D := fGUse) (i := 2) S rfl (S.rdRow (D := fGUse) (i := 3) rfl) rfl rfl rfl (by decide) oneU (by rw [List.length_singleton]; omega) (by rw [List.length_singleton]; omega)) ?_
        rintro va' w ⟨-, S'⟩; clear S
        have S : St w0 w [rowOb fGGrant 52 vL l, rowOb fGUse 46 (.slice AU us.length cU) us, rowOb fGUse 46 va' (itemL (us.take i.toNat) n ++ [nth us i])] := S'.keep [true, true, true, false]
        clear S'
        rw [e1] at S
        repeat' (first | refine WP_region ?_ | refine wl_nil ?_ | refine then_normal ?_ | refine inB_normal ?_ | (refine g_move ?_; refine st_move rfl ?_) | (refine g_assign ?_; refine st_assign rfl ?_) | (refine g_b_add ?_; (refine st_val rfl (r_addN rfl rfl ?_ ?_) ?_; (first | omega | (simp <;> omega)); (first | omega | (simp <;> omega)))))
        refine nextI.mk ⟨_, ?_, i + 1, va', ⟨rfl, rfl, rfl, rfl, rfl, rfl, rfl, trivial⟩, S, by omega, by omega, rfl⟩
        omega
      · have e1 : itemL (us.take i.toNat) n = itemL (us.take (i + 1).toNat) n := by rw [ea]; simp [itemL, List.filter_append, hit]
        repeat' (first | refine WP_seq ?_ | refine WP_region ?_ | refine wl_nil ?_ | refine then_normal ?_ | refine inB_normal ?_ | refine WP_skip ?_ | refine WP_block ?_ | (refine g_move ?_; refine st_move rfl ?_) | (refine g_assign ?_; refine st_assign rfl ?_) | (refine g_b_add ?_; (refine st_val rfl (r_addN rfl rfl ?_ ?_) ?_; (first | omega | (simp <;> omega)); (first | omega | (simp <;> omega)))) | (refine g_b_eql ?_; refine st_val rfl (r_eql rfl rfl) ?_) | (refine g_b_lss ?_; refine st_val rfl (r_lss rfl rfl) ?_) | (refine g_c_len ?_; refine st_val rfl (r_lenSlice rfl) ?_) | (refine g_fieldAddr ?_; refine st_val rfl (r_fieldAddr rfl) ?_) | (refine g_indexAddr ?_; (refine st_val rfl (r_indexAddr (S.rdRow (D := fGUse) (i := 1) rfl) rfl rfl ?_ ?_) ?_; (first | omega | (simp <;> omega)); (first | omega | (simp <;> omega)))) | (refine g_load ?_; (refine st_val rfl (r_loadElem1 (S.rdRow (D := fGUse) (i := 1) rfl) rfl ?_ ?_ rfl) ?_; (first | omega | (simp <;> omega)); (first | omega | (simp <;> omega)))) | (refine WP_cond rfl (fun h => ?_) (fun h => ?_) <;> (fail_if_success (have hh : true = true := h)) <;> (fail_if_success (have hh : false = false := h)) <;> (try simp only [decide_eq_true_eq, decide_eq_false_iff_not, Bool.not_eq_true', Bool.not_eq_false', Int.not_lt, Int.not_le] at h) <;> (try (exfalso; omega))))
        rw [e1] at S
        refine nextI.mk ⟨_, ?_, i + 1, vs, ⟨rfl, rfl, rfl, rfl, rfl, rfl, rfl, trivial⟩, S, by omega, by omega, rfl⟩
        omega
    · have ei : us.take i.toNat = us := List.take_of_length_le (by omega)
      rw [ei] at S
      have q1 := itemL_len us n
      have hc2 := asn_code vl (validU_item vu n)
      repeat' (first | refine WP_seq ?_ | refine WP_region ?_ | refine wl_nil ?_ | refine then_normal ?_ | refine then_exit ?_ | refine inB_here ?_ | refine WP_exit ?_ | (refine g_move ?_; refine st_move rfl ?_) | (refine g_b_lss ?_; refine st_val rfl (r_lss rfl rfl) ?_) | (refine g_c_len ?_; refine st_val rfl (r_lenSlice rfl) ?_) | (refine WP_cond rfl (fun h => ?_) (fun h => ?_) <;> (fail_if_success (have hh : true = true := h)) <;> (fail_if_success (have hh : false = false := h)) <;> (try simp only [decide_eq_true_eq, decide_eq_false_iff_not, Bool.not_eq_true', Bool.not_eq_false', Int.not_lt, Int.not_le] at h) <;> (try (exfalso; omega))))
      refine st_callR rfl (r_call2 rfl rfl rfl) (assign_run (S.rdRow (D := fGGrant) (i := 0) rfl) (S.rdRow (D := fGUse) (i := 2) rfl) (by omega) (by omega)) ?_; rintro v w hb ⟨v1, rfl, hrow⟩; replace S := S.new hb hrow; clear hb hrow
      rw [hc2]
      have hs := allN_succ l us n
      cases ha : asgL l (itemL us n) <;> cases hb' : allN l us n <;> rw [ha, hb'] at hs
      all_goals
        repeat' (first | refine WP_region ?_ | refine wl_nil ?_ | refine then_normal ?_ | refine inB_normal ?_ | (refine g_guard ?_; refine st_off rfl ?_) | (refine g_move ?_; refine st_move rfl ?_) | (refine g_assign ?_; refine st_assign rfl ?_) | (refine g_pick ?_; first | refine st_pickT rfl rfl ?_ | refine st_pickF rfl rfl ?_) | (refine g_b_add ?_; (refine st_val rfl (r_addN rfl rfl ?_ ?_) ?_; (first | omega | (simp <;> omega)); (first | omega | (simp <;> omega)))) | (refine g_b_eql ?_; refine st_val rfl (r_eql rfl rfl) ?_) | (refine g_extract ?_; refine st_val rfl (r_extract rfl rfl) ?_))
        refine nextI.mk ⟨_, ?_, n + 1, ⟨rfl, rfl, rfl, by rw [hs]; rfl, rfl, trivial⟩, S.keep [true, true, false, false], by omega, rfl⟩
        omega
  · have : n = 3 := by omega
    subst this
    rw [h3]
    rw [hc]
    cases ha : asgL l us
    all_goals
      repeat' (first | refine WP_seq ?_ | refine WP_region ?_ | refine wl_nil ?_ | refine then_normal ?_ | refine then_exit ?_ | refine inB_here ?_ | refine WP_ret ?_ | refine WP_exit ?_ | refine WP_condF rfl ?_ | (refine g_move ?_; refine st_move rfl ?_) | (refine g_assign ?_; refine st_assign rfl ?_) | (refine g_b_eql ?_; first | refine st_val rfl (r_eql rfl rfl) ?_ | refine st_val rfl (r_eqlB rfl rfl) ?_) | (refine g_b_lss ?_; refine st_val rfl (r_lss rfl rfl) ?_))
      exact end1 rfl rfl ⟨rfl, S.below⟩
end Go.Proofs.Ytfdjnadopniaeaa
