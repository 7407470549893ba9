import Derived.Test.YtcbidfedffegpaaU
namespace Go.Proofs.Ytcbidfedffegpaa
open Go Go.Gx Go.RowKit
set_option linter.unusedVariables false
set_option linter.unusedSimpArgs false
theorem owe_of {n : Int} {l l' : List GAppearance} {now now' : Int} (h : okA n l now = true) (h' : okA n l' now' = true) (hc : claimsI n l now = claimsI n l' now') : oweI n l now = oweI n l' now' := by
  unfold oweI; rw [if_pos h, if_pos h', hc]
theorem later_claims {n : Int} {l : List GAppearance} {nw : Int} {m : Nat} (h : validA n l = true) (hm : m ≤ l.length) (h0 : 0 ≤ nw) (h1 : nw ≤ 20000000) (hlo : ∀ j : Nat, j < m → (nth l (j : Int)).At ≤ nw) (hhi : ∀ j : Nat, m ≤ j → j < l.length → nw < (nth l (j : Int)).At) :
    claimsI n l nw = openC n l nw m ∧ claimsI n (l.take m) nw = openC n l nw m ∧ ∀ t : Int, nw ≤ t → t ≤ 20000000 → claimsI n (l.take m) t = openC n l nw m := by
  have hlen : (l.take m).length = m := by rw [List.length_take]; omega
  have key : ∀ t : Int, nw ≤ t → t ≤ 20000000 → claimsI n (l.take m) t = openC n l nw m := fun t ht ht1 => by
    unfold claimsI
    rw [if_pos (okA_of (valid_take h m) (by omega) ht1), hlen, openC_take m (Nat.le_refl _)]
    exact openC_now (fun j hj => by have := hlo j hj; omega) m (Nat.le_refl _)
  refine ⟨?_, key nw (Int.le_refl _) h1, key⟩
  unfold claimsI
  rw [if_pos (okA_of h h0 h1)]
  have := openC_stay (n := n) hhi (l.length - m) (by omega)
  rwa [show m + (l.length - m) = l.length by omega] at this
set_option maxRecDepth 20000 in
set_option maxHeartbeats 16000000 in
theorem later_spec {n which later : Int} {v : Value} {xs : List GArr4Int} {w0 : World} (hn : inI n) (hr : Rd fGArr4Int.ty w0 v xs) (hx : ∀ x ∈ xs, okA4 x) (hl : xs.length ≤ maxLen) (hw : inI which) (ht : inI later) :
    CallsV Try.prog 8 #[.int .i64 n, v, .int .i64 which, .int .i64 later] w0 (.bool true) := by
  have S := St.start w0
  have hcn := cntI_range n
  have hml := madeA_len n xs
  have hvd := madeA_valid n xs
  obtain ⟨A0, c0, rfl⟩ := hr.len
  have hn' := hn
  unfold inI at hn' hw ht
  refine CallsV.mk ?_
  refine calls_enter Try.func8 rfl (by intro _ h; first | exact nomatch h.1 | (obtain ⟨_, h, _⟩ := h; exact nomatch h)) Try.ntmps8 rfl ?_
  repeat' (first | refine WP_seq ?_ | refine WP_region ?_ | refine wl_nil ?_ | refine then_normal ?_ | refine WP_skip ?_ | refine WP_condF rfl ?_ | (refine g_move ?_; refine st_move rfl ?_) | (refine g_assign ?_; refine st_assign rfl ?_) | (refine g_un ?_; refine st_val rfl (r_not rfl) ?_) | (refine g_callV ?_; (refine st_callV rfl (r_call0 rfl) (sane_spec) ?_; intro w hb; replace S := S.grow hb; clear hb)))
  refine st_callR rfl (r_call2 rfl rfl rfl) (made_run hn (hr.mono S.below) hx hl) ?_
  rintro vl w hb hrow
  replace S := S.new hb hrow
  clear hb hrow
  have hmade : ∀ {m : Nat}, m < (madeA n xs).length → 1 ≤ (nth (madeA n xs) (m : Int)).At := fun {m} h => by
    rw [madeA_nth h]
    have := atC_bound xs (m + 1)
    show 1 ≤ atC xs (m + 1); omega
  generalize madeA n xs = l at *
  have hat := fun j (hj : j < l.length) => (valid_el hvd hj).2.1
  obtain ⟨Al, cl, hvl⟩ := (S.rdRow (D := fGAppearance) (i := 0) rfl).len
  subst hvl
  have hp := pickI_range (c := which) (n := (l.length : Int) + 1) (by omega)
  have hpd := pickI_range (c := later) (n := 86400) (by omega)
  have hpw := pickI_range (c := later) (n := 1209600) (by omega)
  have hpt := pickI_range (c := later) (n := 1000) (by omega)
  obtain ⟨m, hm⟩ : ∃ m : Nat, pickI which ((l.length : Int) + 1) = (m : Int) := ⟨(pickI which ((l.length : Int) + 1)).toNat, by omega⟩
  rw [hm] at hp
  have hpk : ∀ w, CallsV Try.prog 13 #[.int .i64 which, .int .i64 ((l.length : Int) + 1)] w (.int .i64 (m : Int)) := fun w => by rw [← hm]; exact pick_spec (by omega) (by omega) (by omega)
  have hmono := fun i j (a : i < j) (b : j < l.length) => at_mono hvd a b
  have hsome : ∀ {w : World}, Rd fGAppearance.ty w (.slice Al l.length cl) l → Rd fGAppearance.ty w (sliceV (.slice Al l.length cl) 0 (m : Int).toNat fGAppearance.ty.sz) (l.take m) := fun {w} h => by
    have := h.cut (lo := 0) (hi := m) (by omega) (by omega); rwa [List.drop_zero] at this
  have hcut : ∀ {w : World} {v : Value} {q : List GClaim} {k : Nat}, Rd fGClaim.ty w v q → k ≤ q.length → Rd fGClaim.ty w (sliceV v 0 (k : Int).toNat fGClaim.ty.sz) (q.take k) := fun {w v q k} h hk => by
    have := h.cut (lo := 0) (hi := k) (by omega) hk; rwa [List.drop_zero] at this
  have hlt : (l.take m).length = m := by rw [List.length_take]; omega
  by_cases hm0 : 0 < m
  · have hAt := hat (m - 1) (by omega)
    have e1 : (((m - 1 : Nat)) : Int) = (m : Int) - 1 := by omega
    rw [e1] at hAt
    have hlo : ∀ j : Nat, j < m → (nth l (j : Int)).At ≤ (nth l ((m : Int) - 1)).At := fun j hj => by
      by_cases e : j = m - 1
      · rw [e, e1]; exact Int.le_refl _
      · have := hmono j (m - 1) (by omega) (by omega); rw [e1] at this; omega
    have hhi : ∀ j : Nat, m ≤ j → j < l.length → (nth l ((m : Int) - 1)).At < (nth l (j : Int)).At := fun j hj hj2 => by
      have := hmono (m - 1) j (by omega) hj2; rwa [e1] at this
    have hh := fun h => hhi m (Nat.le_refl _) h
    obtain ⟨nw, hnw⟩ : ∃ nw : Int, nw = (nth l ((m : Int) - 1)).At := ⟨_, rfl⟩
    rw [← hnw] at hlo hhi hAt hh
    have hn0 : 0 ≤ nw := by omega
    have hn1 : nw ≤ 10000000 := by omega
    obtain ⟨hcc, hcs, hct'⟩ := later_claims (n := cntI n) hvd (show m ≤ l.length by omega) hn0 (by omega) hlo hhi
    have hvs := valid_take hvd m
    have hok := okA_of hvd hn0 (by omega : nw ≤ 20000000)
    have hok1 := okA_of hvs hn0 (by omega : nw ≤ 20000000)
    have hok2 := okA_of hvs (show 0 ≤ nw + pickI later 1209600 by omega) (by omega : nw + pickI later 1209600 ≤ 20000000)
    have hok3 := okA_of hvs (show 0 ≤ nw + pickI later 1209600 + pickI later 1000 by omega) (by omega : nw + pickI later 1209600 + pickI later 1000 ≤ 20000000)
    have he := err_of hok
    have he1 := err_of hok1
    have he2 := err_of hok2
    have he3 := err_of hok3
    have hos : oweI (cntI n) (l.take m) nw = oweI (cntI n) l nw := owe_of hok1 hok (hcs.trans hcc.symm)
    obtain ⟨oo, hoo⟩ : ∃ oo, oweI (cntI n) l nw = oo := ⟨_, rfl⟩
    rw [hoo] at hos
    have hol : oo.length = (cntI n).toNat := by rw [← hoo]; exact owe_len hok
    have hct := hct' (nw + pickI later 1209600) (by omega) (by omega)
    have hct3 := hct' (nw + pickI later 1209600 + pickI later 1000) (by omega) (by omega)
    have hpw := until_pw (n := cntI n) (now := nw) hvd (m := m) (by omega)
    have hll := openC_lenm (n := cntI n) (l := l) (now := nw) (by omega) m
    generalize openC (cntI n) l nw m = CC at *
    have hk := kept_two (t1 := nw + pickI later 1209600) (t2 := nw + pickI later 1209600 + pickI later 1000) (by omega) hpw
    have hov1 : overI (cntI n) (l.take m) (nw + pickI later 1209600) = kept (nw + pickI later 1209600) CC := by unfold overI; rw [hct]
    have hov2 : overI (cntI n) (l.take m) (nw + pickI later 1209600 + pickI later 1000) = kept (nw + pickI later 1209600 + pickI later 1000) CC := by unfold overI; rw [hct3]
    generalize kept (nw + pickI later 1209600) CC = c at *
    generalize kept (nw + pickI later 1209600 + pickI later 1000) CC = d at *
    obtain ⟨hk1, hk2, hk3, hk4⟩ := hk
    by_cases hml2 : m < l.length
    · have hh2 := hh hml2
      repeat' (first | refine WP_seq ?_ | refine WP_region ?_ | refine wl_nil ?_ | refine then_normal ?_ | refine WP_skip ?_ | (refine g_move ?_; refine st_move rfl ?_) | (refine g_assign ?_; refine st_assign rfl ?_) | (refine g_pick ?_; refine st_pickT rfl rfl ?_) | (refine g_b_add ?_; (refine st_val rfl (r_addN rfl rfl ?_ ?_) ?_; (first | omega | (simp <;> omega)); (first | omega | (simp <;> omega)))) | (refine g_b_sub ?_; (refine st_val rfl (r_subN rfl rfl ?_ ?_) ?_; (first | omega | (simp <;> omega)); (first | omega | (simp <;> omega)))) | (refine g_b_lss ?_; refine st_val rfl (r_lss rfl rfl) ?_) | (refine g_b_gtr ?_; refine st_val rfl (r_gtr rfl rfl) ?_) | (refine g_b_geq ?_; refine st_val rfl (r_geq rfl rfl) ?_) | (refine g_c_len ?_; refine st_val rfl (r_lenSlice rfl) ?_) | (refine g_fieldAddr ?_; refine st_val rfl (r_fieldAddr rfl) ?_) | (refine g_indexAddr ?_; (refine st_val rfl (r_indexAddr (S.rdRow (D := fGAppearance) (i := 0) rfl) rfl rfl ?_ ?_) ?_; (first | omega | (simp <;> omega)); (first | omega | (simp <;> omega)))) | (refine g_load ?_; (refine st_val rfl (r_loadElemF (S.rdRow (D := fGAppearance) (i := 0) rfl) rfl ?_ ?_ rfl) ?_; (first | omega | (simp <;> omega)); (first | omega | (simp <;> omega)))) | (refine g_callV ?_; first | (refine st_callV rfl (r_call1 rfl rfl) (count_spec (by omega) (by omega)) ?_; intro w hb; replace S := S.grow hb; clear hb) | (refine st_callV rfl (r_call2 rfl rfl rfl) (hpk _) ?_; intro w hb; replace S := S.grow hb; clear hb) | (refine st_callV rfl (r_call2 rfl rfl rfl) (pick_spec (by omega) (by omega) (by omega)) ?_; intro w hb; replace S := S.grow hb; clear hb)) | (refine st_val rfl (r_sliceHi (S.rdRow (D := fGAppearance) (i := 0) rfl) rfl rfl (by omega) (by omega)) ?_) | (refine wl_split rfl rfl (fun h => ?_) (fun h => ?_) <;> (fail_if_success (have hh : true = true := h)) <;> (fail_if_success (have hh : false = false := h)) <;> (try simp only [decide_eq_true_eq, decide_eq_false_iff_not, Bool.not_eq_true', Bool.not_eq_false', Int.not_lt, Int.not_le] at h) <;> (try (exfalso; omega))) | (refine WP_cond rfl (fun h => ?_) (fun h => ?_) <;> (fail_if_success (have hh : true = true := h)) <;> (fail_if_success (have hh : false = false := h)) <;> (try simp only [decide_eq_true_eq, decide_eq_false_iff_not, Bool.not_eq_true', Bool.not_eq_false', Int.not_lt, Int.not_le] at h) <;> (try (exfalso; omega))))
      rw [← hnw]
      refine st_callR rfl (r_call3 rfl rfl rfl rfl) (claims_is (by omega) (S.rdRow (D := fGAppearance) (i := 0) rfl) (by omega) hcc he) ?_
      rintro _ w hb ⟨v1, rfl, hrow⟩
      replace S := S.new hb hrow
      clear hb hrow
      repeat' (first | refine WP_seq ?_ | refine WP_region ?_ | refine wl_nil ?_ | refine then_normal ?_ | (refine g_move ?_; refine st_move rfl ?_) | (refine g_assign ?_; refine st_assign rfl ?_) | (refine g_extract ?_; refine st_val rfl (r_extract rfl rfl) ?_))
      refine st_callR rfl (r_call3 rfl rfl rfl rfl) (claims_is (by omega) (hsome (S.rdRow (D := fGAppearance) (i := 0) rfl)) (by omega) hcs he1) ?_
      rintro _ w hb ⟨v2, rfl, hrow⟩
      replace S := S.new hb hrow
      clear hb hrow
      repeat' (first | refine WP_seq ?_ | refine WP_region ?_ | refine wl_nil ?_ | refine then_normal ?_ | (refine g_move ?_; refine st_move rfl ?_) | (refine g_assign ?_; refine st_assign rfl ?_) | (refine g_extract ?_; refine st_val rfl (r_extract rfl rfl) ?_))
      refine st_callR rfl (r_call3 rfl rfl rfl rfl) (owed_is (by omega) (S.rdRow (D := fGAppearance) (i := 0) rfl) (by omega) hoo he) ?_
      rintro _ w hb ⟨v3, rfl, hrow⟩
      replace S := S.new hb hrow
      clear hb hrow
      repeat' (first | refine WP_seq ?_ | refine WP_region ?_ | refine wl_nil ?_ | refine then_normal ?_ | (refine g_move ?_; refine st_move rfl ?_) | (refine g_assign ?_; refine st_assign rfl ?_) | (refine g_extract ?_; refine st_val rfl (r_extract rfl rfl) ?_))
      refine st_callR rfl (r_call3 rfl rfl rfl rfl) (owed_is (by omega) (hsome (S.rdRow (D := fGAppearance) (i := 0) rfl)) (by omega) hos he1) ?_
      rintro _ w hb ⟨v4, rfl, hrow⟩
      replace S := S.new hb hrow
      clear hb hrow
      repeat' (first | refine WP_seq ?_ | refine WP_region ?_ | refine wl_nil ?_ | refine then_normal ?_ | refine WP_skip ?_ | refine WP_condF rfl ?_ | (refine g_move ?_; refine st_move rfl ?_) | (refine g_assign ?_; refine st_assign rfl ?_) | (refine g_pick ?_; refine st_pickF rfl rfl ?_) | (refine g_b_add ?_; (refine st_val rfl (r_addN rfl rfl ?_ ?_) ?_; (first | omega | (simp <;> omega)); (first | omega | (simp <;> omega)))) | (refine g_b_neq ?_; refine st_val rfl (r_neq rfl rfl) ?_) | (refine g_un ?_; refine st_val rfl (r_not rfl) ?_) | (refine g_extract ?_; refine st_val rfl (r_extract rfl rfl) ?_) | (refine g_callV ?_; first | (refine st_callV rfl (r_call2 rfl rfl rfl) (same_is (S.rdRow (D := fGClaim) (i := 1) rfl) (S.rdRow (D := fGClaim) (i := 2) rfl) (by omega) (by omega) (decide_eq_true rfl)) ?_; intro w hb; replace S := S.grow hb; clear hb) | (refine st_callV rfl (r_call2 rfl rfl rfl) (ints_is (S.rdRow (D := fInt .i64) (i := 3) rfl) (S.rdRow (D := fInt .i64) (i := 4) rfl) (by omega) (by omega) (decide_eq_true rfl)) ?_; intro w hb; replace S := S.grow hb; clear hb) | (refine st_callV rfl (r_call2 rfl rfl rfl) (pick_spec (by omega) (by omega) (by omega)) ?_; intro w hb; replace S := S.grow hb; clear hb)))
      refine st_callR rfl (r_call3 rfl rfl rfl rfl) (overdue_is (by omega) (hsome (S.rdRow (D := fGAppearance) (i := 0) rfl)) (by omega) hov1 he2) ?_
      rintro _ w hb ⟨v5, rfl, hrow⟩
      replace S := S.new hb hrow
      clear hb hrow
      repeat' (first | refine WP_seq ?_ | refine WP_region ?_ | refine wl_nil ?_ | refine then_normal ?_ | (refine g_move ?_; refine st_move rfl ?_) | (refine g_assign ?_; refine st_assign rfl ?_) | (refine g_b_add ?_; (refine st_val rfl (r_addN rfl rfl ?_ ?_) ?_; (first | omega | (simp <;> omega)); (first | omega | (simp <;> omega)))) | (refine g_extract ?_; refine st_val rfl (r_extract rfl rfl) ?_) | (refine g_callV ?_; (refine st_callV rfl (r_call2 rfl rfl rfl) (pick_spec (by omega) (by omega) (by omega)) ?_; intro w hb; replace S := S.grow hb; clear hb)))
      refine st_callR rfl (r_call3 rfl rfl rfl rfl) (overdue_is (by omega) (hsome (S.rdRow (D := fGAppearance) (i := 0) rfl)) (by omega) hov2 he3) ?_
      rintro _ w hb ⟨v6, rfl, hrow⟩
      replace S := S.new hb hrow
      clear hb hrow
      repeat' (first | refine WP_seq ?_ | refine WP_region ?_ | refine wl_nil ?_ | refine then_normal ?_ | (refine g_move ?_; refine st_move rfl ?_) | (refine g_assign ?_; refine st_assign rfl ?_) | (refine g_extract ?_; refine st_val rfl (r_extract rfl rfl) ?_))
      refine st_callR rfl (r_call3 rfl rfl rfl rfl) (claims_is (by omega) (hsome (S.rdRow (D := fGAppearance) (i := 0) rfl)) (by omega) hct he2) ?_
      rintro _ w hb ⟨v7, rfl, hrow⟩
      replace S := S.new hb hrow
      clear hb hrow
      obtain ⟨A5, c5, hv5⟩ := (S.rdRow (D := fGClaim) (i := 5) rfl).len
      subst hv5
      obtain ⟨A6, c6, hv6⟩ := (S.rdRow (D := fGClaim) (i := 6) rfl).len
      subst hv6
      obtain ⟨A7, c7, hv7⟩ := (S.rdRow (D := fGClaim) (i := 7) rfl).len
      subst hv7
      repeat' (first | refine WP_seq ?_ | refine WP_region ?_ | refine wl_nil ?_ | refine then_normal ?_ | refine WP_ret ?_ | refine WP_skip ?_ | (refine g_move ?_; refine st_move rfl ?_) | (refine g_assign ?_; refine st_assign rfl ?_) | (refine g_pick ?_; first | refine st_pickT rfl rfl ?_ | refine st_pickF rfl rfl ?_) | (refine g_b_neq ?_; refine st_val rfl (r_neq rfl rfl) ?_) | (refine g_b_gtr ?_; refine st_val rfl (r_gtr rfl rfl) ?_) | (refine g_extract ?_; refine st_val rfl (r_extract rfl rfl) ?_) | (refine g_c_len ?_; refine st_val rfl (r_lenSlice rfl) ?_) | (refine g_callV ?_; first | (refine st_callV rfl (r_call2 rfl rfl rfl) (same_is (S.rdRow (D := fGClaim) (i := 5) rfl) (hcut (k := c.length) (S.rdRow (D := fGClaim) (i := 6) rfl) hk2) (by omega) (by rw [List.length_take]; omega) (decide_eq_true hk1)) ?_; intro w hb; replace S := S.grow hb; clear hb) | (refine st_callV rfl (r_call2 rfl rfl rfl) (same_is (S.rdRow (D := fGClaim) (i := 6) rfl) (hcut (k := d.length) (S.rdRow (D := fGClaim) (i := 7) rfl) hk4) (by omega) (by rw [List.length_take]; omega) (decide_eq_true hk3)) ?_; intro w hb; replace S := S.grow hb; clear hb)) | (refine st_val rfl (r_sliceHi (S.rdRow (D := fGClaim) (i := 6) rfl) rfl rfl (by omega) (by omega)) ?_) | (refine st_val rfl (r_sliceHi (S.rdRow (D := fGClaim) (i := 7) rfl) rfl rfl (by omega) (by omega)) ?_) | (refine wl_split rfl rfl (fun h => ?_) (fun h => ?_) <;> (fail_if_success (have hh : true = true := h)) <;> (fail_if_success (have hh : false = false := h)) <;> (try simp only [decide_eq_true_eq, decide_eq_false_iff_not, Bool.not_eq_true', Bool.not_eq_false', Int.not_lt, Int.not_le] at h) <;> (try (exfalso; omega))) | (refine WP_cond rfl (fun h => ?_) (fun h => ?_) <;> (fail_if_success (have hh : true = true := h)) <;> (fail_if_success (have hh : false = false := h)) <;> (try simp only [decide_eq_true_eq, decide_eq_false_iff_not, Bool.not_eq_true', Bool.not_eq_false', Int.not_lt, Int.not_le] at h) <;> (try (exfalso; omega))))
      exact end1 rfl rfl ⟨rfl, S.below⟩
    · repeat' (first | refine WP_seq ?_ | refine WP_region ?_ | refine wl_nil ?_ | refine then_normal ?_ | refine WP_skip ?_ | refine WP_condF rfl ?_ | (refine g_guard ?_; refine st_off rfl ?_) | (refine g_move ?_; refine st_move rfl ?_) | (refine g_assign ?_; refine st_assign rfl ?_) | (refine g_pick ?_; refine st_pickF rfl rfl ?_) | (refine g_b_add ?_; (refine st_val rfl (r_addN rfl rfl ?_ ?_) ?_; (first | omega | (simp <;> omega)); (first | omega | (simp <;> omega)))) | (refine g_b_sub ?_; (refine st_val rfl (r_subN rfl rfl ?_ ?_) ?_; (first | omega | (simp <;> omega)); (first | omega | (simp <;> omega)))) | (refine g_b_lss ?_; refine st_val rfl (r_lss rfl rfl) ?_) | (refine g_b_gtr ?_; refine st_val rfl (r_gtr rfl rfl) ?_) | (refine g_c_len ?_; refine st_val rfl (r_lenSlice rfl) ?_) | (refine g_fieldAddr ?_; refine st_val rfl (r_fieldAddr rfl) ?_) | (refine g_indexAddr ?_; (refine st_val rfl (r_indexAddr (S.rdRow (D := fGAppearance) (i := 0) rfl) rfl rfl ?_ ?_) ?_; (first | omega | (simp <;> omega)); (first | omega | (simp <;> omega)))) | (refine g_load ?_; (refine st_val rfl (r_loadElemF (S.rdRow (D := fGAppearance) (i := 0) rfl) rfl ?_ ?_ rfl) ?_; (first | omega | (simp <;> omega)); (first | omega | (simp <;> omega)))) | (refine g_callV ?_; first | (refine st_callV rfl (r_call1 rfl rfl) (count_spec (by omega) (by omega)) ?_; intro w hb; replace S := S.grow hb; clear hb) | (refine st_callV rfl (r_call2 rfl rfl rfl) (hpk _) ?_; intro w hb; replace S := S.grow hb; clear hb) | (refine st_callV rfl (r_call2 rfl rfl rfl) (pick_spec (by omega) (by omega) (by omega)) ?_; intro w hb; replace S := S.grow hb; clear hb)) | (refine st_val rfl (r_sliceHi (S.rdRow (D := fGAppearance) (i := 0) rfl) rfl rfl (by omega) (by omega)) ?_) | (refine wl_split rfl rfl (fun h => ?_) (fun h => ?_) <;> (fail_if_success (have hh : true = true := h)) <;> (fail_if_success (have hh : false = false := h)) <;> (try simp only [decide_eq_true_eq, decide_eq_false_iff_not, Bool.not_eq_true', Bool.not_eq_false', Int.not_lt, Int.not_le] at h) <;> (try (exfalso; omega))) | (refine WP_cond rfl (fun h => ?_) (fun h => ?_) <;> (fail_if_success (have hh : true = true := h)) <;> (fail_if_success (have hh : false = false := h)) <;> (try simp only [decide_eq_true_eq, decide_eq_false_iff_not, Bool.not_eq_true', Bool.not_eq_false', Int.not_lt, Int.not_le] at h) <;> (try (exfalso; omega))))
      rw [← hnw]
      refine st_callR rfl (r_call3 rfl rfl rfl rfl) (claims_is (by omega) (S.rdRow (D := fGAppearance) (i := 0) rfl) (by omega) hcc he) ?_
      rintro _ w hb ⟨v1, rfl, hrow⟩
      replace S := S.new hb hrow
      clear hb hrow
      repeat' (first | refine WP_seq ?_ | refine WP_region ?_ | refine wl_nil ?_ | refine then_normal ?_ | (refine g_move ?_; refine st_move rfl ?_) | (refine g_assign ?_; refine st_assign rfl ?_) | (refine g_extract ?_; refine st_val rfl (r_extract rfl rfl) ?_))
      refine st_callR rfl (r_call3 rfl rfl rfl rfl) (claims_is (by omega) (hsome (S.rdRow (D := fGAppearance) (i := 0) rfl)) (by omega) hcs he1) ?_
      rintro _ w hb ⟨v2, rfl, hrow⟩
      replace S := S.new hb hrow
      clear hb hrow
      repeat' (first | refine WP_seq ?_ | refine WP_region ?_ | refine wl_nil ?_ | refine then_normal ?_ | (refine g_move ?_; refine st_move rfl ?_) | (refine g_assign ?_; refine st_assign rfl ?_) | (refine g_extract ?_; refine st_val rfl (r_extract rfl rfl) ?_))
      refine st_callR rfl (r_call3 rfl rfl rfl rfl) (owed_is (by omega) (S.rdRow (D := fGAppearance) (i := 0) rfl) (by omega) hoo he) ?_
      rintro _ w hb ⟨v3, rfl, hrow⟩
      replace S := S.new hb hrow
      clear hb hrow
      repeat' (first | refine WP_seq ?_ | refine WP_region ?_ | refine wl_nil ?_ | refine then_normal ?_ | (refine g_move ?_; refine st_move rfl ?_) | (refine g_assign ?_; refine st_assign rfl ?_) | (refine g_extract ?_; refine st_val rfl (r_extract rfl rfl) ?_))
      refine st_callR rfl (r_call3 rfl rfl rfl rfl) (owed_is (by omega) (hsome (S.rdRow (D := fGAppearance) (i := 0) rfl)) (by omega) hos he1) ?_
      rintro _ w hb ⟨v4, rfl, hrow⟩
      replace S := S.new hb hrow
      clear hb hrow
      repeat' (first | refine WP_seq ?_ | refine WP_region ?_ | refine wl_nil ?_ | refine then_normal ?_ | refine WP_skip ?_ | refine WP_condF rfl ?_ | (refine g_move ?_; refine st_move rfl ?_) | (refine g_assign ?_; refine st_assign rfl ?_) | (refine g_pick ?_; refine st_pickF rfl rfl ?_) | (refine g_b_add ?_; (refine st_val rfl (r_addN rfl rfl ?_ ?_) ?_; (first | omega | (simp <;> omega)); (first | omega | (simp <;> omega)))) | (refine g_b_neq ?_; refine st_val rfl (r_neq rfl rfl) ?_) | (refine g_un ?_; refine st_val rfl (r_not rfl) ?_) | (refine g_extract ?_; refine st_val rfl (r_extract rfl rfl) ?_) | (refine g_callV ?_; first | (refine st_callV rfl (r_call2 rfl rfl rfl) (same_is (S.rdRow (D := fGClaim) (i := 1) rfl) (S.rdRow (D := fGClaim) (i := 2) rfl) (by omega) (by omega) (decide_eq_true rfl)) ?_; intro w hb; replace S := S.grow hb; clear hb) | (refine st_callV rfl (r_call2 rfl rfl rfl) (ints_is (S.rdRow (D := fInt .i64) (i := 3) rfl) (S.rdRow (D := fInt .i64) (i := 4) rfl) (by omega) (by omega) (decide_eq_true rfl)) ?_; intro w hb; replace S := S.grow hb; clear hb) | (refine st_callV rfl (r_call2 rfl rfl rfl) (pick_spec (by omega) (by omega) (by omega)) ?_; intro w hb; replace S := S.grow hb; clear hb)))
      refine st_callR rfl (r_call3 rfl rfl rfl rfl) (overdue_is (by omega) (hsome (S.rdRow (D := fGAppearance) (i := 0) rfl)) (by omega) hov1 he2) ?_
      rintro _ w hb ⟨v5, rfl, hrow⟩
      replace S := S.new hb hrow
      clear hb hrow
      repeat' (first | refine WP_seq ?_ | refine WP_region ?_ | refine wl_nil ?_ | refine then_normal ?_ | (refine g_move ?_; refine st_move rfl ?_) | (refine g_assign ?_; refine st_assign rfl ?_) | (refine g_b_add ?_; (refine st_val rfl (r_addN rfl rfl ?_ ?_) ?_; (first | omega | (simp <;> omega)); (first | omega | (simp <;> omega)))) | (refine g_extract ?_; refine st_val rfl (r_extract rfl rfl) ?_) | (refine g_callV ?_; (refine st_callV rfl (r_call2 rfl rfl rfl) (pick_spec (by omega) (by omega) (by omega)) ?_; intro w hb; replace S := S.grow hb; clear hb)))
      refine st_callR rfl (r_call3 rfl rfl rfl rfl) (overdue_is (by omega) (hsome (S.rdRow (D := fGAppearance) (i := 0) rfl)) (by omega) hov2 he3) ?_
      rintro _ w hb ⟨v6, rfl, hrow⟩
      replace S := S.new hb hrow
      clear hb hrow
      repeat' (first | refine WP_seq ?_ | refine WP_region ?_ | refine wl_nil ?_ | refine then_normal ?_ | (refine g_move ?_; refine st_move rfl ?_) | (refine g_assign ?_; refine st_assign rfl ?_) | (refine g_extract ?_; refine st_val rfl (r_extract rfl rfl) ?_))
      refine st_callR rfl (r_call3 rfl rfl rfl rfl) (claims_is (by omega) (hsome (S.rdRow (D := fGAppearance) (i := 0) rfl)) (by omega) hct he2) ?_
      rintro _ w hb ⟨v7, rfl, hrow⟩
      replace S := S.new hb hrow
      clear hb hrow
      obtain ⟨A5, c5, hv5⟩ := (S.rdRow (D := fGClaim) (i := 5) rfl).len
      subst hv5
      obtain ⟨A6, c6, hv6⟩ := (S.rdRow (D := fGClaim) (i := 6) rfl).len
      subst hv6
      obtain ⟨A7, c7, hv7⟩ := (S.rdRow (D := fGClaim) (i := 7) rfl).len
      subst hv7
      repeat' (first | refine WP_seq ?_ | refine WP_region ?_ | refine wl_nil ?_ | refine then_normal ?_ | refine WP_ret ?_ | refine WP_skip ?_ | (refine g_move ?_; refine st_move rfl ?_) | (refine g_assign ?_; refine st_assign rfl ?_) | (refine g_pick ?_; first | refine st_pickT rfl rfl ?_ | refine st_pickF rfl rfl ?_) | (refine g_b_neq ?_; refine st_val rfl (r_neq rfl rfl) ?_) | (refine g_b_gtr ?_; refine st_val rfl (r_gtr rfl rfl) ?_) | (refine g_extract ?_; refine st_val rfl (r_extract rfl rfl) ?_) | (refine g_c_len ?_; refine st_val rfl (r_lenSlice rfl) ?_) | (refine g_callV ?_; first | (refine st_callV rfl (r_call2 rfl rfl rfl) (same_is (S.rdRow (D := fGClaim) (i := 5) rfl) (hcut (k := c.length) (S.rdRow (D := fGClaim) (i := 6) rfl) hk2) (by omega) (by rw [List.length_take]; omega) (decide_eq_true hk1)) ?_; intro w hb; replace S := S.grow hb; clear hb) | (refine st_callV rfl (r_call2 rfl rfl rfl) (same_is (S.rdRow (D := fGClaim) (i := 6) rfl) (hcut (k := d.length) (S.rdRow (D := fGClaim) (i := 7) rfl) hk4) (by omega) (by rw [List.length_take]; omega) (decide_eq_true hk3)) ?_; intro w hb; replace S := S.grow hb; clear hb)) | (refine st_val rfl (r_sliceHi (S.rdRow (D := fGClaim) (i := 6) rfl) rfl rfl (by omega) (by omega)) ?_) | (refine st_val rfl (r_sliceHi (S.rdRow (D := fGClaim) (i := 7) rfl) rfl rfl (by omega) (by omega)) ?_) | (refine wl_split rfl rfl (fun h => ?_) (fun h => ?_) <;> (fail_if_success (have hh : true = true := h)) <;> (fail_if_success (have hh : false = false := h)) <;> (try simp only [decide_eq_true_eq, decide_eq_false_iff_not, Bool.not_eq_true', Bool.not_eq_false', Int.not_lt, Int.not_le] at h) <;> (try (exfalso; omega))) | (refine WP_cond rfl (fun h => ?_) (fun h => ?_) <;> (fail_if_success (have hh : true = true := h)) <;> (fail_if_success (have hh : false = false := h)) <;> (try simp only [decide_eq_true_eq, decide_eq_false_iff_not, Bool.not_eq_true', Bool.not_eq_false', Int.not_lt, Int.not_le] at h) <;> (try (exfalso; omega))))
      exact end1 rfl rfl ⟨rfl, S.below⟩
  · have em : m = 0 := by omega
    have hge : ∀ j : Nat, j < l.length → (nth l (m : Int)).At ≤ (nth l (j : Int)).At := fun j hj => by
      by_cases e : j = m
      · rw [e]; exact Int.le_refl _
      · have := hmono m j (by omega) hj; omega
    have hA0 := fun h : m < l.length => (hat m h).1
    have hv0 : m < l.length → -1 < (nth l (m : Int)).At := fun h => by have := (hat m h).1; omega
    by_cases hcase : m < l.length ∧ (nth l (m : Int)).At ≤ pickI later 86400
    · obtain ⟨hm1, hm2⟩ := hcase
      have hAt := hat m hm1
      have hpos := hmade hm1
      obtain ⟨nw, hnw⟩ : ∃ nw : Int, nw = (nth l (m : Int)).At - 1 := ⟨_, rfl⟩
      have hn0 : 0 ≤ nw := by omega
      have hn1 : nw ≤ 10000000 := by omega
      have hlo : ∀ j : Nat, j < m → (nth l (j : Int)).At ≤ nw := fun j hj => by omega
      have hhi : ∀ j : Nat, m ≤ j → j < l.length → nw < (nth l (j : Int)).At := fun j _ hj => by have := hge j hj; omega
      obtain ⟨hcc, hcs, hct'⟩ := later_claims (n := cntI n) hvd (show m ≤ l.length by omega) hn0 (by omega) hlo hhi
      have hvs := valid_take hvd m
      have hok := okA_of hvd hn0 (by omega : nw ≤ 20000000)
      have hok1 := okA_of hvs hn0 (by omega : nw ≤ 20000000)
      have hok2 := okA_of hvs (show 0 ≤ nw + pickI later 1209600 by omega) (by omega : nw + pickI later 1209600 ≤ 20000000)
      have hok3 := okA_of hvs (show 0 ≤ nw + pickI later 1209600 + pickI later 1000 by omega) (by omega : nw + pickI later 1209600 + pickI later 1000 ≤ 20000000)
      have he := err_of hok
      have he1 := err_of hok1
      have he2 := err_of hok2
      have he3 := err_of hok3
      have hos : oweI (cntI n) (l.take m) nw = oweI (cntI n) l nw := owe_of hok1 hok (hcs.trans hcc.symm)
      obtain ⟨oo, hoo⟩ : ∃ oo, oweI (cntI n) l nw = oo := ⟨_, rfl⟩
      rw [hoo] at hos
      have hol : oo.length = (cntI n).toNat := by rw [← hoo]; exact owe_len hok
      have hct := hct' (nw + pickI later 1209600) (by omega) (by omega)
      have hct3 := hct' (nw + pickI later 1209600 + pickI later 1000) (by omega) (by omega)
      have hpw := until_pw (n := cntI n) (now := nw) hvd (m := m) (by omega)
      have hll := openC_lenm (n := cntI n) (l := l) (now := nw) (by omega) m
      generalize openC (cntI n) l nw m = CC at *
      have hk := kept_two (t1 := nw + pickI later 1209600) (t2 := nw + pickI later 1209600 + pickI later 1000) (by omega) hpw
      have hov1 : overI (cntI n) (l.take m) (nw + pickI later 1209600) = kept (nw + pickI later 1209600) CC := by unfold overI; rw [hct]
      have hov2 : overI (cntI n) (l.take m) (nw + pickI later 1209600 + pickI later 1000) = kept (nw + pickI later 1209600 + pickI later 1000) CC := by unfold overI; rw [hct3]
      generalize kept (nw + pickI later 1209600) CC = c at *
      generalize kept (nw + pickI later 1209600 + pickI later 1000) CC = d at *
      obtain ⟨hk1, hk2, hk3, hk4⟩ := hk
      repeat' (first | refine WP_seq ?_ | refine WP_region ?_ | refine wl_nil ?_ | refine then_normal ?_ | refine WP_skip ?_ | (refine g_move ?_; refine st_move rfl ?_) | (refine g_assign ?_; refine st_assign rfl ?_) | (refine g_pick ?_; refine st_pickT rfl rfl ?_) | (refine g_b_add ?_; (refine st_val rfl (r_addN rfl rfl ?_ ?_) ?_; (first | omega | (simp <;> omega)); (first | omega | (simp <;> omega)))) | (refine g_b_sub ?_; (refine st_val rfl (r_subN rfl rfl ?_ ?_) ?_; (first | omega | (simp <;> omega)); (first | omega | (simp <;> omega)))) | (refine g_b_lss ?_; refine st_val rfl (r_lss rfl rfl) ?_) | (refine g_b_gtr ?_; refine st_val rfl (r_gtr rfl rfl) ?_) | (refine g_b_geq ?_; refine st_val rfl (r_geq rfl rfl) ?_) | (refine g_c_len ?_; refine st_val rfl (r_lenSlice rfl) ?_) | (refine g_fieldAddr ?_; refine st_val rfl (r_fieldAddr rfl) ?_) | (refine g_indexAddr ?_; (refine st_val rfl (r_indexAddr (S.rdRow (D := fGAppearance) (i := 0) rfl) rfl rfl ?_ ?_) ?_; (first | omega | (simp <;> omega)); (first | omega | (simp <;> omega)))) | (refine g_load ?_; (refine st_val rfl (r_loadElemF (S.rdRow (D := fGAppearance) (i := 0) rfl) rfl ?_ ?_ rfl) ?_; (first | omega | (simp <;> omega)); (first | omega | (simp <;> omega)))) | (refine g_callV ?_; first | (refine st_callV rfl (r_call1 rfl rfl) (count_spec (by omega) (by omega)) ?_; intro w hb; replace S := S.grow hb; clear hb) | (refine st_callV rfl (r_call2 rfl rfl rfl) (hpk _) ?_; intro w hb; replace S := S.grow hb; clear hb) | (refine st_callV rfl (r_call2 rfl rfl rfl) (pick_spec (by omega) (by omega) (by omega)) ?_; intro w hb; replace S := S.grow hb; clear hb)) | (refine st_val rfl (r_sliceHi (S.rdRow (D := fGAppearance) (i := 0) rfl) rfl rfl (by omega) (by omega)) ?_) | (refine wl_split rfl rfl (fun h => ?_) (fun h => ?_) <;> (fail_if_success (have hh : true = true := h)) <;> (fail_if_success (have hh : false = false := h)) <;> (try simp only [decide_eq_true_eq, decide_eq_false_iff_not, Bool.not_eq_true', Bool.not_eq_false', Int.not_lt, Int.not_le] at h) <;> (try (exfalso; omega))) | (refine WP_cond rfl (fun h => ?_) (fun h => ?_) <;> (fail_if_success (have hh : true = true := h)) <;> (fail_if_success (have hh : false = false := h)) <;> (try simp only [decide_eq_true_eq, decide_eq_false_iff_not, Bool.not_eq_true', Bool.not_eq_false', Int.not_lt, Int.not_le] at h) <;> (try (exfalso; omega))))
      rw [← hnw]
      refine st_callR rfl (r_call3 rfl rfl rfl rfl) (claims_is (by omega) (S.rdRow (D := fGAppearance) (i := 0) rfl) (by omega) hcc he) ?_
      rintro _ w hb ⟨v1, rfl, hrow⟩
      replace S := S.new hb hrow
      clear hb hrow
      repeat' (first | refine WP_seq ?_ | refine WP_region ?_ | refine wl_nil ?_ | refine then_normal ?_ | (refine g_move ?_; refine st_move rfl ?_) | (refine g_assign ?_; refine st_assign rfl ?_) | (refine g_extract ?_; refine st_val rfl (r_extract rfl rfl) ?_))
      refine st_callR rfl (r_call3 rfl rfl rfl rfl) (claims_is (by omega) (hsome (S.rdRow (D := fGAppearance) (i := 0) rfl)) (by omega) hcs he1) ?_
      rintro _ w hb ⟨v2, rfl, hrow⟩
      replace S := S.new hb hrow
      clear hb hrow
      repeat' (first | refine WP_seq ?_ | refine WP_region ?_ | refine wl_nil ?_ | refine then_normal ?_ | (refine g_move ?_; refine st_move rfl ?_) | (refine g_assign ?_; refine st_assign rfl ?_) | (refine g_extract ?_; refine st_val rfl (r_extract rfl rfl) ?_))
      refine st_callR rfl (r_call3 rfl rfl rfl rfl) (owed_is (by omega) (S.rdRow (D := fGAppearance) (i := 0) rfl) (by omega) hoo he) ?_
      rintro _ w hb ⟨v3, rfl, hrow⟩
      replace S := S.new hb hrow
      clear hb hrow
      repeat' (first | refine WP_seq ?_ | refine WP_region ?_ | refine wl_nil ?_ | refine then_normal ?_ | (refine g_move ?_; refine st_move rfl ?_) | (refine g_assign ?_; refine st_assign rfl ?_) | (refine g_extract ?_; refine st_val rfl (r_extract rfl rfl) ?_))
      refine st_callR rfl (r_call3 rfl rfl rfl rfl) (owed_is (by omega) (hsome (S.rdRow (D := fGAppearance) (i := 0) rfl)) (by omega) hos he1) ?_
      rintro _ w hb ⟨v4, rfl, hrow⟩
      replace S := S.new hb hrow
      clear hb hrow
      repeat' (first | refine WP_seq ?_ | refine WP_region ?_ | refine wl_nil ?_ | refine then_normal ?_ | refine WP_skip ?_ | refine WP_condF rfl ?_ | (refine g_move ?_; refine st_move rfl ?_) | (refine g_assign ?_; refine st_assign rfl ?_) | (refine g_pick ?_; refine st_pickF rfl rfl ?_) | (refine g_b_add ?_; (refine st_val rfl (r_addN rfl rfl ?_ ?_) ?_; (first | omega | (simp <;> omega)); (first | omega | (simp <;> omega)))) | (refine g_b_neq ?_; refine st_val rfl (r_neq rfl rfl) ?_) | (refine g_un ?_; refine st_val rfl (r_not rfl) ?_) | (refine g_extract ?_; refine st_val rfl (r_extract rfl rfl) ?_) | (refine g_callV ?_; first | (refine st_callV rfl (r_call2 rfl rfl rfl) (same_is (S.rdRow (D := fGClaim) (i := 1) rfl) (S.rdRow (D := fGClaim) (i := 2) rfl) (by omega) (by omega) (decide_eq_true rfl)) ?_; intro w hb; replace S := S.grow hb; clear hb) | (refine st_callV rfl (r_call2 rfl rfl rfl) (ints_is (S.rdRow (D := fInt .i64) (i := 3) rfl) (S.rdRow (D := fInt .i64) (i := 4) rfl) (by omega) (by omega) (decide_eq_true rfl)) ?_; intro w hb; replace S := S.grow hb; clear hb) | (refine st_callV rfl (r_call2 rfl rfl rfl) (pick_spec (by omega) (by omega) (by omega)) ?_; intro w hb; replace S := S.grow hb; clear hb)))
      refine st_callR rfl (r_call3 rfl rfl rfl rfl) (overdue_is (by omega) (hsome (S.rdRow (D := fGAppearance) (i := 0) rfl)) (by omega) hov1 he2) ?_
      rintro _ w hb ⟨v5, rfl, hrow⟩
      replace S := S.new hb hrow
      clear hb hrow
      repeat' (first | refine WP_seq ?_ | refine WP_region ?_ | refine wl_nil ?_ | refine then_normal ?_ | (refine g_move ?_; refine st_move rfl ?_) | (refine g_assign ?_; refine st_assign rfl ?_) | (refine g_b_add ?_; (refine st_val rfl (r_addN rfl rfl ?_ ?_) ?_; (first | omega | (simp <;> omega)); (first | omega | (simp <;> omega)))) | (refine g_extract ?_; refine st_val rfl (r_extract rfl rfl) ?_) | (refine g_callV ?_; (refine st_callV rfl (r_call2 rfl rfl rfl) (pick_spec (by omega) (by omega) (by omega)) ?_; intro w hb; replace S := S.grow hb; clear hb)))
      refine st_callR rfl (r_call3 rfl rfl rfl rfl) (overdue_is (by omega) (hsome (S.rdRow (D := fGAppearance) (i := 0) rfl)) (by omega) hov2 he3) ?_
      rintro _ w hb ⟨v6, rfl, hrow⟩
      replace S := S.new hb hrow
      clear hb hrow
      repeat' (first | refine WP_seq ?_ | refine WP_region ?_ | refine wl_nil ?_ | refine then_normal ?_ | (refine g_move ?_; refine st_move rfl ?_) | (refine g_assign ?_; refine st_assign rfl ?_) | (refine g_extract ?_; refine st_val rfl (r_extract rfl rfl) ?_))
      refine st_callR rfl (r_call3 rfl rfl rfl rfl) (claims_is (by omega) (hsome (S.rdRow (D := fGAppearance) (i := 0) rfl)) (by omega) hct he2) ?_
      rintro _ w hb ⟨v7, rfl, hrow⟩
      replace S := S.new hb hrow
      clear hb hrow
      obtain ⟨A5, c5, hv5⟩ := (S.rdRow (D := fGClaim) (i := 5) rfl).len
      subst hv5
      obtain ⟨A6, c6, hv6⟩ := (S.rdRow (D := fGClaim) (i := 6) rfl).len
      subst hv6
      obtain ⟨A7, c7, hv7⟩ := (S.rdRow (D := fGClaim) (i := 7) rfl).len
      subst hv7
      repeat' (first | refine WP_seq ?_ | refine WP_region ?_ | refine wl_nil ?_ | refine then_normal ?_ | refine WP_ret ?_ | refine WP_skip ?_ | (refine g_move ?_; refine st_move rfl ?_) | (refine g_assign ?_; refine st_assign rfl ?_) | (refine g_pick ?_; first | refine st_pickT rfl rfl ?_ | refine st_pickF rfl rfl ?_) | (refine g_b_neq ?_; refine st_val rfl (r_neq rfl rfl) ?_) | (refine g_b_gtr ?_; refine st_val rfl (r_gtr rfl rfl) ?_) | (refine g_extract ?_; refine st_val rfl (r_extract rfl rfl) ?_) | (refine g_c_len ?_; refine st_val rfl (r_lenSlice rfl) ?_) | (refine g_callV ?_; first | (refine st_callV rfl (r_call2 rfl rfl rfl) (same_is (S.rdRow (D := fGClaim) (i := 5) rfl) (hcut (k := c.length) (S.rdRow (D := fGClaim) (i := 6) rfl) hk2) (by omega) (by rw [List.length_take]; omega) (decide_eq_true hk1)) ?_; intro w hb; replace S := S.grow hb; clear hb) | (refine st_callV rfl (r_call2 rfl rfl rfl) (same_is (S.rdRow (D := fGClaim) (i := 6) rfl) (hcut (k := d.length) (S.rdRow (D := fGClaim) (i := 7) rfl) hk4) (by omega) (by rw [List.length_take]; omega) (decide_eq_true hk3)) ?_; intro w hb; replace S := S.grow hb; clear hb)) | (refine st_val rfl (r_sliceHi (S.rdRow (D := fGClaim) (i := 6) rfl) rfl rfl (by omega) (by omega)) ?_) | (refine st_val rfl (r_sliceHi (S.rdRow (D := fGClaim) (i := 7) rfl) rfl rfl (by omega) (by omega)) ?_) | (refine wl_split rfl rfl (fun h => ?_) (fun h => ?_) <;> (fail_if_success (have hh : true = true := h)) <;> (fail_if_success (have hh : false = false := h)) <;> (try simp only [decide_eq_true_eq, decide_eq_false_iff_not, Bool.not_eq_true', Bool.not_eq_false', Int.not_lt, Int.not_le] at h) <;> (try (exfalso; omega))) | (refine WP_cond rfl (fun h => ?_) (fun h => ?_) <;> (fail_if_success (have hh : true = true := h)) <;> (fail_if_success (have hh : false = false := h)) <;> (try simp only [decide_eq_true_eq, decide_eq_false_iff_not, Bool.not_eq_true', Bool.not_eq_false', Int.not_lt, Int.not_le] at h) <;> (try (exfalso; omega))))
      exact end1 rfl rfl ⟨rfl, S.below⟩
    · obtain ⟨nw, hnw⟩ : ∃ nw : Int, nw = pickI later 86400 := ⟨_, rfl⟩
      have hn0 : 0 ≤ nw := by omega
      have hn1 : nw ≤ 10000000 := by omega
      have hlo : ∀ j : Nat, j < m → (nth l (j : Int)).At ≤ nw := fun j hj => by omega
      have hhi : ∀ j : Nat, m ≤ j → j < l.length → nw < (nth l (j : Int)).At := fun j _ hj => by have := hge j hj; omega
      obtain ⟨hcc, hcs, hct'⟩ := later_claims (n := cntI n) hvd (show m ≤ l.length by omega) hn0 (by omega) hlo hhi
      have hvs := valid_take hvd m
      have hok := okA_of hvd hn0 (by omega : nw ≤ 20000000)
      have hok1 := okA_of hvs hn0 (by omega : nw ≤ 20000000)
      have hok2 := okA_of hvs (show 0 ≤ nw + pickI later 1209600 by omega) (by omega : nw + pickI later 1209600 ≤ 20000000)
      have hok3 := okA_of hvs (show 0 ≤ nw + pickI later 1209600 + pickI later 1000 by omega) (by omega : nw + pickI later 1209600 + pickI later 1000 ≤ 20000000)
      have he := err_of hok
      have he1 := err_of hok1
      have he2 := err_of hok2
      have he3 := err_of hok3
      have hos : oweI (cntI n) (l.take m) nw = oweI (cntI n) l nw := owe_of hok1 hok (hcs.trans hcc.symm)
      obtain ⟨oo, hoo⟩ : ∃ oo, oweI (cntI n) l nw = oo := ⟨_, rfl⟩
      rw [hoo] at hos
      have hol : oo.length = (cntI n).toNat := by rw [← hoo]; exact owe_len hok
      have hct := hct' (nw + pickI later 1209600) (by omega) (by omega)
      have hct3 := hct' (nw + pickI later 1209600 + pickI later 1000) (by omega) (by omega)
      have hpw := until_pw (n := cntI n) (now := nw) hvd (m := m) (by omega)
      have hll := openC_lenm (n := cntI n) (l := l) (now := nw) (by omega) m
      generalize openC (cntI n) l nw m = CC at *
      have hk := kept_two (t1 := nw + pickI later 1209600) (t2 := nw + pickI later 1209600 + pickI later 1000) (by omega) hpw
      have hov1 : overI (cntI n) (l.take m) (nw + pickI later 1209600) = kept (nw + pickI later 1209600) CC := by unfold overI; rw [hct]
      have hov2 : overI (cntI n) (l.take m) (nw + pickI later 1209600 + pickI later 1000) = kept (nw + pickI later 1209600 + pickI later 1000) CC := by unfold overI; rw [hct3]
      generalize kept (nw + pickI later 1209600) CC = c at *
      generalize kept (nw + pickI later 1209600 + pickI later 1000) CC = d at *
      obtain ⟨hk1, hk2, hk3, hk4⟩ := hk
      by_cases hm1 : m < l.length
      · have hm2 : pickI later 86400 < (nth l (m : Int)).At := by omega
        repeat' (first | refine WP_seq ?_ | refine WP_region ?_ | refine wl_nil ?_ | refine then_normal ?_ | refine WP_skip ?_ | (refine g_move ?_; refine st_move rfl ?_) | (refine g_assign ?_; refine st_assign rfl ?_) | (refine g_pick ?_; refine st_pickT rfl rfl ?_) | (refine g_b_add ?_; (refine st_val rfl (r_addN rfl rfl ?_ ?_) ?_; (first | omega | (simp <;> omega)); (first | omega | (simp <;> omega)))) | (refine g_b_lss ?_; refine st_val rfl (r_lss rfl rfl) ?_) | (refine g_b_gtr ?_; refine st_val rfl (r_gtr rfl rfl) ?_) | (refine g_b_geq ?_; refine st_val rfl (r_geq rfl rfl) ?_) | (refine g_c_len ?_; refine st_val rfl (r_lenSlice rfl) ?_) | (refine g_fieldAddr ?_; refine st_val rfl (r_fieldAddr rfl) ?_) | (refine g_indexAddr ?_; (refine st_val rfl (r_indexAddr (S.rdRow (D := fGAppearance) (i := 0) rfl) rfl rfl ?_ ?_) ?_; (first | omega | (simp <;> omega)); (first | omega | (simp <;> omega)))) | (refine g_load ?_; (refine st_val rfl (r_loadElemF (S.rdRow (D := fGAppearance) (i := 0) rfl) rfl ?_ ?_ rfl) ?_; (first | omega | (simp <;> omega)); (first | omega | (simp <;> omega)))) | (refine g_callV ?_; first | (refine st_callV rfl (r_call1 rfl rfl) (count_spec (by omega) (by omega)) ?_; intro w hb; replace S := S.grow hb; clear hb) | (refine st_callV rfl (r_call2 rfl rfl rfl) (hpk _) ?_; intro w hb; replace S := S.grow hb; clear hb) | (refine st_callV rfl (r_call2 rfl rfl rfl) (pick_spec (by omega) (by omega) (by omega)) ?_; intro w hb; replace S := S.grow hb; clear hb)) | (refine st_val rfl (r_sliceHi (S.rdRow (D := fGAppearance) (i := 0) rfl) rfl rfl (by omega) (by omega)) ?_) | (refine wl_split rfl rfl (fun h => ?_) (fun h => ?_) <;> (fail_if_success (have hh : true = true := h)) <;> (fail_if_success (have hh : false = false := h)) <;> (try simp only [decide_eq_true_eq, decide_eq_false_iff_not, Bool.not_eq_true', Bool.not_eq_false', Int.not_lt, Int.not_le] at h) <;> (try (exfalso; omega))) | (refine WP_cond rfl (fun h => ?_) (fun h => ?_) <;> (fail_if_success (have hh : true = true := h)) <;> (fail_if_success (have hh : false = false := h)) <;> (try simp only [decide_eq_true_eq, decide_eq_false_iff_not, Bool.not_eq_true', Bool.not_eq_false', Int.not_lt, Int.not_le] at h) <;> (try (exfalso; omega))))
        rw [← hnw]
        refine st_callR rfl (r_call3 rfl rfl rfl rfl) (claims_is (by omega) (S.rdRow (D := fGAppearance) (i := 0) rfl) (by omega) hcc he) ?_
        rintro _ w hb ⟨v1, rfl, hrow⟩
        replace S := S.new hb hrow
        clear hb hrow
        repeat' (first | refine WP_seq ?_ | refine WP_region ?_ | refine wl_nil ?_ | refine then_normal ?_ | (refine g_move ?_; refine st_move rfl ?_) | (refine g_assign ?_; refine st_assign rfl ?_) | (refine g_extract ?_; refine st_val rfl (r_extract rfl rfl) ?_))
        refine st_callR rfl (r_call3 rfl rfl rfl rfl) (claims_is (by omega) (hsome (S.rdRow (D := fGAppearance) (i := 0) rfl)) (by omega) hcs he1) ?_
        rintro _ w hb ⟨v2, rfl, hrow⟩
        replace S := S.new hb hrow
        clear hb hrow
        repeat' (first | refine WP_seq ?_ | refine WP_region ?_ | refine wl_nil ?_ | refine then_normal ?_ | (refine g_move ?_; refine st_move rfl ?_) | (refine g_assign ?_; refine st_assign rfl ?_) | (refine g_extract ?_; refine st_val rfl (r_extract rfl rfl) ?_))
        refine st_callR rfl (r_call3 rfl rfl rfl rfl) (owed_is (by omega) (S.rdRow (D := fGAppearance) (i := 0) rfl) (by omega) hoo he) ?_
        rintro _ w hb ⟨v3, rfl, hrow⟩
        replace S := S.new hb hrow
        clear hb hrow
        repeat' (first | refine WP_seq ?_ | refine WP_region ?_ | refine wl_nil ?_ | refine then_normal ?_ | (refine g_move ?_; refine st_move rfl ?_) | (refine g_assign ?_; refine st_assign rfl ?_) | (refine g_extract ?_; refine st_val rfl (r_extract rfl rfl) ?_))
        refine st_callR rfl (r_call3 rfl rfl rfl rfl) (owed_is (by omega) (hsome (S.rdRow (D := fGAppearance) (i := 0) rfl)) (by omega) hos he1) ?_
        rintro _ w hb ⟨v4, rfl, hrow⟩
        replace S := S.new hb hrow
        clear hb hrow
        repeat' (first | refine WP_seq ?_ | refine WP_region ?_ | refine wl_nil ?_ | refine then_normal ?_ | refine WP_skip ?_ | refine WP_condF rfl ?_ | (refine g_move ?_; refine st_move rfl ?_) | (refine g_assign ?_; refine st_assign rfl ?_) | (refine g_pick ?_; refine st_pickF rfl rfl ?_) | (refine g_b_add ?_; (refine st_val rfl (r_addN rfl rfl ?_ ?_) ?_; (first | omega | (simp <;> omega)); (first | omega | (simp <;> omega)))) | (refine g_b_neq ?_; refine st_val rfl (r_neq rfl rfl) ?_) | (refine g_un ?_; refine st_val rfl (r_not rfl) ?_) | (refine g_extract ?_; refine st_val rfl (r_extract rfl rfl) ?_) | (refine g_callV ?_; first | (refine st_callV rfl (r_call2 rfl rfl rfl) (same_is (S.rdRow (D := fGClaim) (i := 1) rfl) (S.rdRow (D := fGClaim) (i := 2) rfl) (by omega) (by omega) (decide_eq_true rfl)) ?_; intro w hb; replace S := S.grow hb; clear hb) | (refine st_callV rfl (r_call2 rfl rfl rfl) (ints_is (S.rdRow (D := fInt .i64) (i := 3) rfl) (S.rdRow (D := fInt .i64) (i := 4) rfl) (by omega) (by omega) (decide_eq_true rfl)) ?_; intro w hb; replace S := S.grow hb; clear hb) | (refine st_callV rfl (r_call2 rfl rfl rfl) (pick_spec (by omega) (by omega) (by omega)) ?_; intro w hb; replace S := S.grow hb; clear hb)))
        refine st_callR rfl (r_call3 rfl rfl rfl rfl) (overdue_is (by omega) (hsome (S.rdRow (D := fGAppearance) (i := 0) rfl)) (by omega) hov1 he2) ?_
        rintro _ w hb ⟨v5, rfl, hrow⟩
        replace S := S.new hb hrow
        clear hb hrow
        repeat' (first | refine WP_seq ?_ | refine WP_region ?_ | refine wl_nil ?_ | refine then_normal ?_ | (refine g_move ?_; refine st_move rfl ?_) | (refine g_assign ?_; refine st_assign rfl ?_) | (refine g_b_add ?_; (refine st_val rfl (r_addN rfl rfl ?_ ?_) ?_; (first | omega | (simp <;> omega)); (first | omega | (simp <;> omega)))) | (refine g_extract ?_; refine st_val rfl (r_extract rfl rfl) ?_) | (refine g_callV ?_; (refine st_callV rfl (r_call2 rfl rfl rfl) (pick_spec (by omega) (by omega) (by omega)) ?_; intro w hb; replace S := S.grow hb; clear hb)))
        refine st_callR rfl (r_call3 rfl rfl rfl rfl) (overdue_is (by omega) (hsome (S.rdRow (D := fGAppearance) (i := 0) rfl)) (by omega) hov2 he3) ?_
        rintro _ w hb ⟨v6, rfl, hrow⟩
        replace S := S.new hb hrow
        clear hb hrow
        repeat' (first | refine WP_seq ?_ | refine WP_region ?_ | refine wl_nil ?_ | refine then_normal ?_ | (refine g_move ?_; refine st_move rfl ?_) | (refine g_assign ?_; refine st_assign rfl ?_) | (refine g_extract ?_; refine st_val rfl (r_extract rfl rfl) ?_))
        refine st_callR rfl (r_call3 rfl rfl rfl rfl) (claims_is (by omega) (hsome (S.rdRow (D := fGAppearance) (i := 0) rfl)) (by omega) hct he2) ?_
        rintro _ w hb ⟨v7, rfl, hrow⟩
        replace S := S.new hb hrow
        clear hb hrow
        obtain ⟨A5, c5, hv5⟩ := (S.rdRow (D := fGClaim) (i := 5) rfl).len
        subst hv5
        obtain ⟨A6, c6, hv6⟩ := (S.rdRow (D := fGClaim) (i := 6) rfl).len
        subst hv6
        obtain ⟨A7, c7, hv7⟩ := (S.rdRow (D := fGClaim) (i := 7) rfl).len
        subst hv7
        repeat' (first | refine WP_seq ?_ | refine WP_region ?_ | refine wl_nil ?_ | refine then_normal ?_ | refine WP_ret ?_ | refine WP_skip ?_ | (refine g_move ?_; refine st_move rfl ?_) | (refine g_assign ?_; refine st_assign rfl ?_) | (refine g_pick ?_; first | refine st_pickT rfl rfl ?_ | refine st_pickF rfl rfl ?_) | (refine g_b_neq ?_; refine st_val rfl (r_neq rfl rfl) ?_) | (refine g_b_gtr ?_; refine st_val rfl (r_gtr rfl rfl) ?_) | (refine g_extract ?_; refine st_val rfl (r_extract rfl rfl) ?_) | (refine g_c_len ?_; refine st_val rfl (r_lenSlice rfl) ?_) | (refine g_callV ?_; first | (refine st_callV rfl (r_call2 rfl rfl rfl) (same_is (S.rdRow (D := fGClaim) (i := 5) rfl) (hcut (k := c.length) (S.rdRow (D := fGClaim) (i := 6) rfl) hk2) (by omega) (by rw [List.length_take]; omega) (decide_eq_true hk1)) ?_; intro w hb; replace S := S.grow hb; clear hb) | (refine st_callV rfl (r_call2 rfl rfl rfl) (same_is (S.rdRow (D := fGClaim) (i := 6) rfl) (hcut (k := d.length) (S.rdRow (D := fGClaim) (i := 7) rfl) hk4) (by omega) (by rw [List.length_take]; omega) (decide_eq_true hk3)) ?_; intro w hb; replace S := S.grow hb; clear hb)) | (refine st_val rfl (r_sliceHi (S.rdRow (D := fGClaim) (i := 6) rfl) rfl rfl (by omega) (by omega)) ?_) | (refine st_val rfl (r_sliceHi (S.rdRow (D := fGClaim) (i := 7) rfl) rfl rfl (by omega) (by omega)) ?_) | (refine wl_split rfl rfl (fun h => ?_) (fun h => ?_) <;> (fail_if_success (have hh : true = true := h)) <;> (fail_if_success (have hh : false = false := h)) <;> (try simp only [decide_eq_true_eq, decide_eq_false_iff_not, Bool.not_eq_true', Bool.not_eq_false', Int.not_lt, Int.not_le] at h) <;> (try (exfalso; omega))) | (refine WP_cond rfl (fun h => ?_) (fun h => ?_) <;> (fail_if_success (have hh : true = true := h)) <;> (fail_if_success (have hh : false = false := h)) <;> (try simp only [decide_eq_true_eq, decide_eq_false_iff_not, Bool.not_eq_true', Bool.not_eq_false', Int.not_lt, Int.not_le] at h) <;> (try (exfalso; omega))))
        exact end1 rfl rfl ⟨rfl, S.below⟩
      · repeat' (first | refine WP_seq ?_ | refine WP_region ?_ | refine wl_nil ?_ | refine then_normal ?_ | refine WP_skip ?_ | refine WP_condF rfl ?_ | (refine g_guard ?_; refine st_off rfl ?_) | (refine g_move ?_; refine st_move rfl ?_) | (refine g_assign ?_; refine st_assign rfl ?_) | (refine g_pick ?_; refine st_pickF rfl rfl ?_) | (refine g_b_add ?_; (refine st_val rfl (r_addN rfl rfl ?_ ?_) ?_; (first | omega | (simp <;> omega)); (first | omega | (simp <;> omega)))) | (refine g_b_lss ?_; refine st_val rfl (r_lss rfl rfl) ?_) | (refine g_b_gtr ?_; refine st_val rfl (r_gtr rfl rfl) ?_) | (refine g_c_len ?_; refine st_val rfl (r_lenSlice rfl) ?_) | (refine g_callV ?_; first | (refine st_callV rfl (r_call1 rfl rfl) (count_spec (by omega) (by omega)) ?_; intro w hb; replace S := S.grow hb; clear hb) | (refine st_callV rfl (r_call2 rfl rfl rfl) (hpk _) ?_; intro w hb; replace S := S.grow hb; clear hb) | (refine st_callV rfl (r_call2 rfl rfl rfl) (pick_spec (by omega) (by omega) (by omega)) ?_; intro w hb; replace S := S.grow hb; clear hb)) | (refine st_val rfl (r_sliceHi (S.rdRow (D := fGAppearance) (i := 0) rfl) rfl rfl (by omega) (by omega)) ?_) | (refine wl_split rfl rfl (fun h => ?_) (fun h => ?_) <;> (fail_if_success (have hh : true = true := h)) <;> (fail_if_success (have hh : false = false := h)) <;> (try simp only [decide_eq_true_eq, decide_eq_false_iff_not, Bool.not_eq_true', Bool.not_eq_false', Int.not_lt, Int.not_le] at h) <;> (try (exfalso; omega))) | (refine WP_cond rfl (fun h => ?_) (fun h => ?_) <;> (fail_if_success (have hh : true = true := h)) <;> (fail_if_success (have hh : false = false := h)) <;> (try simp only [decide_eq_true_eq, decide_eq_false_iff_not, Bool.not_eq_true', Bool.not_eq_false', Int.not_lt, Int.not_le] at h) <;> (try (exfalso; omega))))
        rw [← hnw]
        refine st_callR rfl (r_call3 rfl rfl rfl rfl) (claims_is (by omega) (S.rdRow (D := fGAppearance) (i := 0) rfl) (by omega) hcc he) ?_
        rintro _ w hb ⟨v1, rfl, hrow⟩
        replace S := S.new hb hrow
        clear hb hrow
        repeat' (first | refine WP_seq ?_ | refine WP_region ?_ | refine wl_nil ?_ | refine then_normal ?_ | (refine g_move ?_; refine st_move rfl ?_) | (refine g_assign ?_; refine st_assign rfl ?_) | (refine g_extract ?_; refine st_val rfl (r_extract rfl rfl) ?_))
        refine st_callR rfl (r_call3 rfl rfl rfl rfl) (claims_is (by omega) (hsome (S.rdRow (D := fGAppearance) (i := 0) rfl)) (by omega) hcs he1) ?_
        rintro _ w hb ⟨v2, rfl, hrow⟩
        replace S := S.new hb hrow
        clear hb hrow
        repeat' (first | refine WP_seq ?_ | refine WP_region ?_ | refine wl_nil ?_ | refine then_normal ?_ | (refine g_move ?_; refine st_move rfl ?_) | (refine g_assign ?_; refine st_assign rfl ?_) | (refine g_extract ?_; refine st_val rfl (r_extract rfl rfl) ?_))
        refine st_callR rfl (r_call3 rfl rfl rfl rfl) (owed_is (by omega) (S.rdRow (D := fGAppearance) (i := 0) rfl) (by omega) hoo he) ?_
        rintro _ w hb ⟨v3, rfl, hrow⟩
        replace S := S.new hb hrow
        clear hb hrow
        repeat' (first | refine WP_seq ?_ | refine WP_region ?_ | refine wl_nil ?_ | refine then_normal ?_ | (refine g_move ?_; refine st_move rfl ?_) | (refine g_assign ?_; refine st_assign rfl ?_) | (refine g_extract ?_; refine st_val rfl (r_extract rfl rfl) ?_))
        refine st_callR rfl (r_call3 rfl rfl rfl rfl) (owed_is (by omega) (hsome (S.rdRow (D := fGAppearance) (i := 0) rfl)) (by omega) hos he1) ?_
        rintro _ w hb ⟨v4, rfl, hrow⟩
        replace S := S.new hb hrow
        clear hb hrow
        repeat' (first | refine WP_seq ?_ | refine WP_region ?_ | refine wl_nil ?_ | refine then_normal ?_ | refine WP_skip ?_ | refine WP_condF rfl ?_ | (refine g_move ?_; refine st_move rfl ?_) | (refine g_assign ?_; refine st_assign rfl ?_) | (refine g_pick ?_; refine st_pickF rfl rfl ?_) | (refine g_b_add ?_; (refine st_val rfl (r_addN rfl rfl ?_ ?_) ?_; (first | omega | (simp <;> omega)); (first | omega | (simp <;> omega)))) | (refine g_b_neq ?_; refine st_val rfl (r_neq rfl rfl) ?_) | (refine g_un ?_; refine st_val rfl (r_not rfl) ?_) | (refine g_extract ?_; refine st_val rfl (r_extract rfl rfl) ?_) | (refine g_callV ?_; first | (refine st_callV rfl (r_call2 rfl rfl rfl) (same_is (S.rdRow (D := fGClaim) (i := 1) rfl) (S.rdRow (D := fGClaim) (i := 2) rfl) (by omega) (by omega) (decide_eq_true rfl)) ?_; intro w hb; replace S := S.grow hb; clear hb) | (refine st_callV rfl (r_call2 rfl rfl rfl) (ints_is (S.rdRow (D := fInt .i64) (i := 3) rfl) (S.rdRow (D := fInt .i64) (i := 4) rfl) (by omega) (by omega) (decide_eq_true rfl)) ?_; intro w hb; replace S := S.grow hb; clear hb) | (refine st_callV rfl (r_call2 rfl rfl rfl) (pick_spec (by omega) (by omega) (by omega)) ?_; intro w hb; replace S := S.grow hb; clear hb)))
        refine st_callR rfl (r_call3 rfl rfl rfl rfl) (overdue_is (by omega) (hsome (S.rdRow (D := fGAppearance) (i := 0) rfl)) (by omega) hov1 he2) ?_
        rintro _ w hb ⟨v5, rfl, hrow⟩
        replace S := S.new hb hrow
        clear hb hrow
        repeat' (first | refine WP_seq ?_ | refine WP_region ?_ | refine wl_nil ?_ | refine then_normal ?_ | (refine g_move ?_; refine st_move rfl ?_) | (refine g_assign ?_; refine st_assign rfl ?_) | (refine g_b_add ?_; (refine st_val rfl (r_addN rfl rfl ?_ ?_) ?_; (first | omega | (simp <;> omega)); (first | omega | (simp <;> omega)))) | (refine g_extract ?_; refine st_val rfl (r_extract rfl rfl) ?_) | (refine g_callV ?_; (refine st_callV rfl (r_call2 rfl rfl rfl) (pick_spec (by omega) (by omega) (by omega)) ?_; intro w hb; replace S := S.grow hb; clear hb)))
        refine st_callR rfl (r_call3 rfl rfl rfl rfl) (overdue_is (by omega) (hsome (S.rdRow (D := fGAppearance) (i := 0) rfl)) (by omega) hov2 he3) ?_
        rintro _ w hb ⟨v6, rfl, hrow⟩
        replace S := S.new hb hrow
        clear hb hrow
        repeat' (first | refine WP_seq ?_ | refine WP_region ?_ | refine wl_nil ?_ | refine then_normal ?_ | (refine g_move ?_; refine st_move rfl ?_) | (refine g_assign ?_; refine st_assign rfl ?_) | (refine g_extract ?_; refine st_val rfl (r_extract rfl rfl) ?_))
        refine st_callR rfl (r_call3 rfl rfl rfl rfl) (claims_is (by omega) (hsome (S.rdRow (D := fGAppearance) (i := 0) rfl)) (by omega) hct he2) ?_
        rintro _ w hb ⟨v7, rfl, hrow⟩
        replace S := S.new hb hrow
        clear hb hrow
        obtain ⟨A5, c5, hv5⟩ := (S.rdRow (D := fGClaim) (i := 5) rfl).len
        subst hv5
        obtain ⟨A6, c6, hv6⟩ := (S.rdRow (D := fGClaim) (i := 6) rfl).len
        subst hv6
        obtain ⟨A7, c7, hv7⟩ := (S.rdRow (D := fGClaim) (i := 7) rfl).len
        subst hv7
        repeat' (first | refine WP_seq ?_ | refine WP_region ?_ | refine wl_nil ?_ | refine then_normal ?_ | refine WP_ret ?_ | refine WP_skip ?_ | (refine g_move ?_; refine st_move rfl ?_) | (refine g_assign ?_; refine st_assign rfl ?_) | (refine g_pick ?_; first | refine st_pickT rfl rfl ?_ | refine st_pickF rfl rfl ?_) | (refine g_b_neq ?_; refine st_val rfl (r_neq rfl rfl) ?_) | (refine g_b_gtr ?_; refine st_val rfl (r_gtr rfl rfl) ?_) | (refine g_extract ?_; refine st_val rfl (r_extract rfl rfl) ?_) | (refine g_c_len ?_; refine st_val rfl (r_lenSlice rfl) ?_) | (refine g_callV ?_; first | (refine st_callV rfl (r_call2 rfl rfl rfl) (same_is (S.rdRow (D := fGClaim) (i := 5) rfl) (hcut (k := c.length) (S.rdRow (D := fGClaim) (i := 6) rfl) hk2) (by omega) (by rw [List.length_take]; omega) (decide_eq_true hk1)) ?_; intro w hb; replace S := S.grow hb; clear hb) | (refine st_callV rfl (r_call2 rfl rfl rfl) (same_is (S.rdRow (D := fGClaim) (i := 6) rfl) (hcut (k := d.length) (S.rdRow (D := fGClaim) (i := 7) rfl) hk4) (by omega) (by rw [List.length_take]; omega) (decide_eq_true hk3)) ?_; intro w hb; replace S := S.grow hb; clear hb)) | (refine st_val rfl (r_sliceHi (S.rdRow (D := fGClaim) (i := 6) rfl) rfl rfl (by omega) (by omega)) ?_) | (refine st_val rfl (r_sliceHi (S.rdRow (D := fGClaim) (i := 7) rfl) rfl rfl (by omega) (by omega)) ?_) | (refine wl_split rfl rfl (fun h => ?_) (fun h => ?_) <;> (fail_if_success (have hh : true = true := h)) <;> (fail_if_success (have hh : false = false := h)) <;> (try simp only [decide_eq_true_eq, decide_eq_false_iff_not, Bool.not_eq_true', Bool.not_eq_false', Int.not_lt, Int.not_le] at h) <;> (try (exfalso; omega))) | (refine WP_cond rfl (fun h => ?_) (fun h => ?_) <;> (fail_if_success (have hh : true = true := h)) <;> (fail_if_success (have hh : false = false := h)) <;> (try simp only [decide_eq_true_eq, decide_eq_false_iff_not, Bool.not_eq_true', Bool.not_eq_false', Int.not_lt, Int.not_le] at h) <;> (try (exfalso; omega))))
        exact end1 rfl rfl ⟨rfl, S.below⟩
end Go.Proofs.Ytcbidfedffegpaa
