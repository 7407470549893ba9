import Derived.Test.YtcbidfedffegpaaU
namespace Go.Proofs.Ytcbidfedffegpaa
open Go Go.Gx Go.RowKit
set_option linter.unusedVariables false
set_option linter.unusedSimpArgs false
theorem nth_appA {l : List GAppearance} {a : GAppearance} {i : Nat} (h : i < l.length) : nth (l ++ [a]) (i : Int) = nth l (i : Int) := by
  unfold nth; rw [Int.toNat_natCast, List.getD_eq_getElem?_getD, List.getD_eq_getElem?_getD, List.getElem?_append_left h]
theorem nth_lastA {l : List GAppearance} {a : GAppearance} : nth (l ++ [a]) (l.length : Int) = a := by
  unfold nth; rw [Int.toNat_natCast, List.getD_eq_getElem?_getD, List.getElem?_append_right (Nat.le_refl _)]; simp
theorem openC_app {n : Int} {l : List GAppearance} {a : GAppearance} {now : Int} : ∀ i : Nat, i ≤ l.length → openC n (l ++ [a]) now i = openC n l now i
  | 0, _ => rfl
  | i + 1, hi => by
    have ih := openC_app (n := n) (l := l) (a := a) (now := now) i (by omega)
    unfold openC; rw [nth_appA (by omega), ih]
theorem valid_app {n : Int} {l : List GAppearance} {a : GAppearance} (h : validA n l = true) (hl : l.length < 60) (hc : 0 ≤ a.Candidate ∧ a.Candidate < n) (hp : prevA l (l.length : Int) < a.At) (hat : a.At ≤ 10000000) (hs : 1 ≤ a.Seconds ∧ a.Seconds ≤ 3600) (hw : 1 ≤ a.Weight ∧ a.Weight ≤ 10) : validA n (l ++ [a]) = true := by
  have hv := valid_at h
  refine valid_of ⟨hv.1, hv.2.1⟩ (by rw [List.length_append, List.length_singleton]; omega) (all_range fun j hj => ?_)
  rw [List.length_append, List.length_singleton] at hj
  have hpv : prevA (l ++ [a]) (j : Int) = prevA l (j : Int) := by
    unfold prevA
    split
    · rfl
    · rw [show ((j : Int) - 1) = ((j - 1 : Nat) : Int) by omega, nth_appA (by omega)]
  unfold okAt
  rw [hpv]
  by_cases e : j = l.length
  · subst e
    rw [nth_lastA]
    unfold ok1; rw [decide_eq_true_eq]; omega
  · rw [nth_appA (by omega)]; exact hv.2.2.2 j (by omega)
theorem passC_zero {k : Int} : ∀ (q : List GClaim), (∀ c ∈ q, 1 ≤ c.Rest) → passC k 0 q = (0, q)
  | [], _ => rfl
  | x :: q, h => by
    have hx := h x (List.mem_cons_self ..)
    have ih := passC_zero (k := k) q (fun c hc => h c (List.mem_cons_of_mem _ hc))
    have hm : min 0 x.Rest = 0 := by omega
    have hp : 0 < x.Rest := by omega
    by_cases hk : x.Candidate = k
    · simp only [passC, if_pos hk, hm, Int.sub_zero, ih, if_pos hp]
    · simp only [passC, if_neg hk, ih, if_pos hp]
theorem step_first {n i : Int} {a : GAppearance} {x : GClaim} {r : List GClaim} (hx : a.Candidate = x.Candidate) (hw : worthA a = x.Rest) (hr : ∀ c ∈ x :: r, 1 ≤ c.Rest) : stepC n i a (x :: r) = r := by
  have h1 := hr x (List.mem_cons_self ..)
  have hz := passC_zero (k := a.Candidate) r (fun c hc => hr c (List.mem_cons_of_mem _ hc))
  have hp : passC a.Candidate (worthA a) (x :: r) = (0, r) := by
    unfold passC
    rw [if_pos hx.symm, hw, show min x.Rest x.Rest = x.Rest by omega, Int.sub_self, if_neg (by omega), hz]
  unfold stepC
  rw [hp]
  unfold newC
  rw [if_neg (by omega), List.append_nil]
/-- When the candidate of the first claim appears for as much, it alone is gone. -/
theorem serves_step {n : Int} {l : List GAppearance} {nw : Int} {x : GClaim} {r : List GClaim} (h : validA n l = true) (hl : l.length < 60) (hcc : openC n l nw l.length = x :: r) (hn : ∀ j : Nat, j < l.length → (nth l (j : Int)).At ≤ nw) (h0 : 0 ≤ nw) (h1 : nw + 1 ≤ 10000000) (hx : x.Rest ≤ 3600) :
    validA n (l ++ [⟨x.Candidate, nw + 1, x.Rest, 1⟩]) = true ∧ openC n (l ++ [⟨x.Candidate, nw + 1, x.Rest, 1⟩]) (nw + 1) (l.length + 1) = r := by
  have hok := openC_ok (now := nw) h l.length (Nat.le_refl _)
  have hxm := hok.mem x (by rw [hcc]; exact List.mem_cons_self ..)
  have hp : prevA l (l.length : Int) < nw + 1 := by
    unfold prevA; split
    · omega
    · have := hn (l.length - 1) (by omega)
      rw [show ((l.length - 1 : Nat) : Int) = (l.length : Int) - 1 by omega] at this; omega
  have hv := valid_app (a := ⟨x.Candidate, nw + 1, x.Rest, 1⟩) h hl hxm.1 hp h1 ⟨hxm.2.2.1, hx⟩ ⟨by show (1 : Int) ≤ 1; omega, by show (1 : Int) ≤ 10; omega⟩
  refine ⟨hv, ?_⟩
  rw [openC, nth_lastA, if_pos (by show nw + 1 ≤ nw + 1; omega), openC_app l.length (Nat.le_refl _), openC_now (now' := nw) (fun j hj => by have := hn j hj; omega) l.length (Nat.le_refl _), hcc]
  exact step_first rfl (by unfold worthA; show x.Rest * 1 = x.Rest; omega) (by rw [← hcc]; exact hok.rest)
theorem openC_rest {n : Int} {l : List GAppearance} {now B : Int} (h : validA n l = true) (hb : ∀ j : Nat, j < l.length → worthA (nth l (j : Int)) ≤ B) : ∀ m : Nat, m ≤ l.length → ∀ c ∈ openC n l now m, c.Rest ≤ B
  | 0, _ => fun c hc => absurd hc List.not_mem_nil
  | m + 1, hm => fun c hc => by
    have ih := openC_rest (now := now) h hb m (by omega)
    obtain ⟨h1, h2, h3, h4, h5⟩ := valid_el h (m := m) (by omega)
    have hw := worth_bound h3 h4
    have hok := openC_ok (now := now) h m (by omega)
    have hbm := hb m (by omega)
    unfold openC at hc
    split at hc
    · unfold stepC at hc
      have hp := passC_mem (k := (nth l (m : Int)).Candidate) _ (worthA (nth l (m : Int))) (by omega) hok.rest
      rcases List.mem_append.1 hc with hc | hc
      · obtain ⟨x, hx, e1, e2, e3, e4, e5⟩ := hp.1 c hc
        have := ih x hx; omega
      · have := newC_mem hc; omega
    · exact ih c hc
theorem made_worth (n : Int) (xs : List GArr4Int) (j : Nat) (h : j < (madeA n xs).length) : worthA (nth (madeA n xs) (j : Int)) ≤ 120 := by
  rw [madeA_nth h]
  have hp2 := pickI_range (c := (nth xs (j : Int)).a2) (n := 30) (by omega)
  have hp3 := pickI_range (c := (nth xs (j : Int)).a3) (n := 4) (by omega)
  show (1 + pickI (nth xs (j : Int)).a2 30) * (1 + pickI (nth xs (j : Int)).a3 4) ≤ 120
  have := Int.mul_le_mul (show 1 + pickI (nth xs (j : Int)).a2 30 ≤ 30 by omega) (show 1 + pickI (nth xs (j : Int)).a3 4 ≤ 4 by omega) (by omega) (by omega)
  omega
/-- With no claim open all have had the same. -/
theorem even_plain {n : Int} {l : List GAppearance} {now : Int} (h : okA n l now = true) (hc : claimsI n l now = []) : ∀ j : Nat, (j : Int) < n → nth (totI n l now) (j : Int) = nth (totI n l now) 0 := fun j hj => by
  have hv : validA n l = true := by unfold okA at h; simp only [Bool.and_eq_true] at h; exact h.1
  have hva := valid_at hv
  have hl := levels_plain h
  have ho : ∀ j : Nat, (j : Int) < n → nth (oweI n l now) (j : Int) = 0 := fun j hj => by
    unfold oweI sumsI; rw [if_pos h, hc]
    unfold nth; rw [Int.toNat_natCast, List.getD_eq_getElem?_getD, List.getElem?_map, List.getElem?_range (by omega)]; rfl
  have a := hl j hj
  have b := hl 0 (by omega)
  have c := ho j hj
  have d := ho 0 (by omega)
  simp only [Int.natCast_zero] at b d
  omega
set_option maxRecDepth 20000 in
set_option maxHeartbeats 16000000 in
theorem serves_spec {n : Int} {v : Value} {xs : List GArr4Int} {w0 : World} (hn : inI n) (hr : Rd fGArr4Int.ty w0 v xs) (hx : ∀ x ∈ xs, okA4 x) (hl : xs.length ≤ maxLen) :
    CallsV Try.prog 7 #[.int .i64 n, v] w0 (.bool true) := by
  have S := St.start w0
  have hcn := cntI_range n
  obtain ⟨A0, c0, rfl⟩ := hr.len
  have hn' := hn
  unfold inI at hn'
  simp only [maxLen] at hl
  have hxl : (min (xs.length : Int) 6).toNat ≤ xs.length := by omega
  have hml := madeA_len n (xs.take (min (xs.length : Int) 6).toNat)
  rw [List.length_take] at hml
  have hvd := madeA_valid n (xs.take (min (xs.length : Int) 6).toNat)
  have hr6 : ∀ {w : World}, Below w0.heap.size w0 w → Rd fGArr4Int.ty w (sliceV (.slice A0 xs.length c0) 0 (min (xs.length : Int) 6).toNat fGArr4Int.ty.sz) (xs.take (min (xs.length : Int) 6).toNat) := fun {w} hb => by
    have := (hr.mono hb).cut (lo := 0) (hi := (min (xs.length : Int) 6).toNat) (by omega) hxl; rwa [List.drop_zero] at this
  refine CallsV.mk ?_
  refine calls_enter Try.func7 rfl (by intro _ h; first | exact nomatch h.1 | (obtain ⟨_, h, _⟩ := h; exact nomatch h)) Try.ntmps7 rfl ?_
  repeat' (first | refine WP_seq ?_ | refine WP_region ?_ | refine wl_nil ?_ | refine then_normal ?_ | refine WP_skip ?_ | refine WP_condF rfl ?_ | (refine g_move ?_; refine st_move rfl ?_) | (refine g_assign ?_; refine st_assign rfl ?_) | (refine g_un ?_; refine st_val rfl (r_not rfl) ?_) | (refine g_c_min ?_; refine st_val rfl (r_min2 rfl rfl) ?_) | (refine g_c_len ?_; refine st_val rfl (r_lenSlice rfl) ?_) | (refine g_callV ?_; (refine st_callV rfl (r_call0 rfl) (sane_spec) ?_; intro w hb; replace S := S.grow hb; clear hb)) | (refine st_val rfl (r_sliceHi (hr.mono S.below) rfl rfl (by omega) (by omega)) ?_))
  refine st_callR rfl (r_call2 rfl rfl rfl) (made_run hn (hr6 S.below) (fun x hxm => hx x (List.mem_of_mem_take hxm)) (by rw [List.length_take]; simp only [maxLen]; omega)) ?_
  rintro vl w hb hrow
  replace S := S.new hb hrow
  clear hb hrow
  have hwo := made_worth n (xs.take (min (xs.length : Int) 6).toNat)
  have hmade : ∀ j : Nat, j < (madeA n (xs.take (min (xs.length : Int) 6).toNat)).length → (nth (madeA n (xs.take (min (xs.length : Int) 6).toNat)) (j : Int)).At ≤ 2000000 := fun j h => by
    rw [madeA_nth h]
    have := atC_bound (xs.take (min (xs.length : Int) 6).toNat) (j + 1)
    show atC _ (j + 1) ≤ 2000000; omega
  generalize madeA n (xs.take (min (xs.length : Int) 6).toNat) = l at *
  repeat' (first | refine WP_seq ?_ | refine WP_region ?_ | refine wl_nil ?_ | refine then_normal ?_ | refine WP_block ?_ | (refine g_move ?_; refine st_move rfl ?_) | (refine g_assign ?_; refine st_assign rfl ?_) | (refine g_callV ?_; (refine st_callV rfl (r_call1 rfl rfl) (count_spec (by omega) (by omega)) ?_; intro w hb; replace S := S.grow hb; clear hb)))
  generalize cntI n = k at *
  have oneA : ∀ (x : GAppearance), ∀ u ∈ fGAppearance.enc x, u.oneCell' = true := by
    intro x u hu; simp [fGAppearance, GAppearance.enc] at hu; rcases hu with rfl | rfl | rfl | rfl <;> rfl
  have hat0 : ∀ j : Nat, j < l.length → (nth l (j : Int)).At ≤ prevA l (l.length : Int) := fun j hj => by
    unfold prevA; rw [if_neg (by omega)]
    by_cases e : j = l.length - 1
    · rw [e, show ((l.length - 1 : Nat) : Int) = (l.length : Int) - 1 by omega]; exact Int.le_refl _
    · have := at_mono hvd (show j < l.length - 1 by omega) (by omega)
      rw [show ((l.length - 1 : Nat) : Int) = (l.length : Int) - 1 by omega] at this; omega
  have hp0 : prevA l (l.length : Int) ≤ 2000000 := by
    unfold prevA; split
    · omega
    · have := hmade (l.length - 1) (by omega); rwa [show ((l.length - 1 : Nat) : Int) = (l.length : Int) - 1 by omega] at this
  have hc0 := openC_lenm (n := k) (l := l) (now := prevA l (l.length : Int)) (by omega) l.length
  have hr0 := openC_rest (n := k) (now := prevA l (l.length : Int)) hvd hwo l.length (Nat.le_refl _)
  refine WP_loop (fun z σ w1 => ∃ (i : Nat) (l : List GAppearance) (vl : Value), Has σ [(5, .bool true), (6, vl), (7, .int .i64 k), (8, .int .i64 (i : Int))] ∧ St w0 w1 [rowOb fGAppearance 49 vl l] ∧ validA k l = true ∧ l.length ≤ 6 + i ∧ (l.length = 0 → i = 0) ∧ (∀ j : Nat, j < l.length → (nth l (j : Int)).At ≤ prevA l (l.length : Int)) ∧ prevA l (l.length : Int) ≤ 2000000 + i ∧ (openC k l (prevA l (l.length : Int)) l.length).length + i ≤ 48 ∧ (∀ c ∈ openC k l (prevA l (l.length : Int)) l.length, c.Rest ≤ 120) ∧ z = 50 - i) 50
    ⟨0, l, vl, ⟨rfl, rfl, rfl, rfl, trivial⟩, S, hvd, by omega, fun _ => rfl, hat0, by omega, by omega, hr0, by omega⟩ ?_
  clear S hvd hml hwo hmade hat0 hp0 hc0 hr0
  clear l vl
  rintro z σ w1 ⟨i, l, vl, hs', S, hvd, hll, hl0, hat, hpm, hcl, hrs, rfl⟩
  refine WP_has hs' ?_
  obtain ⟨Al, cl, hvl⟩ := (S.rdRow (D := fGAppearance) (i := 0) rfl).len
  subst hvl
  have hva := valid_at hvd
  by_cases hlz : l.length = 0
  · obtain ⟨nw, hnw⟩ : ∃ nw : Int, nw = (i : Int) := ⟨_, rfl⟩
    have hok : okA k l nw = true := okA_of hvd (by omega) (by omega)
    have hcc : claimsI k l nw = [] := by unfold claimsI; rw [if_pos hok, hlz]; rfl
    repeat' (first | refine WP_seq ?_ | refine WP_region ?_ | refine wl_nil ?_ | refine then_normal ?_ | refine WP_skip ?_ | refine WP_block ?_ | (refine g_move ?_; refine st_move rfl ?_) | (refine g_assign ?_; refine st_assign rfl ?_) | (refine g_b_lss ?_; refine st_val rfl (r_lss rfl rfl) ?_) | (refine g_b_gtr ?_; refine st_val rfl (r_gtr rfl rfl) ?_) | (refine g_c_len ?_; refine st_val rfl (r_lenSlice rfl) ?_) | (refine WP_cond rfl (fun h => ?_) (fun h => ?_) <;> (fail_if_success (have hh : true = true := h)) <;> (fail_if_success (have hh : false = false := h)) <;> (try simp only [decide_eq_true_eq, decide_eq_false_iff_not, Bool.not_eq_true', Bool.not_eq_false', Int.not_lt, Int.not_le] at h) <;> (try (exfalso; omega))))
    rw [← hnw]
    have he := err_of hok
    have hf1 : (firstI k l nw).1 = ⟨0, 0, 0, 0⟩ := by unfold firstI; rw [hcc]; rfl
    have hf2 : (firstI k l nw).2 = false := by unfold firstI; rw [hcc]; rfl
    have hev := even_plain hok hcc
    have htl := tot_len hok
    generalize htt : totI k l nw = tt at *
    refine st_callR rfl (r_call3 rfl rfl rfl rfl) (claims_is (by omega) (S.rdRow (D := fGAppearance) (i := 0) rfl) (by omega) hcc he) ?_
    rintro _ w hb ⟨v1, rfl, hrow⟩
    replace S := S.new hb hrow
    clear hb hrow
    obtain ⟨A1, c1, hv1⟩ := (S.rdRow (D := fGClaim) (i := 1) rfl).len
    subst hv1
    repeat' (first | refine WP_seq ?_ | refine WP_region ?_ | refine wl_nil ?_ | refine then_normal ?_ | refine WP_skip ?_ | refine WP_condT rfl ?_ | refine WP_condF rfl ?_ | (refine g_move ?_; refine st_move rfl ?_) | (refine g_assign ?_; refine st_assign rfl ?_) | (refine g_pick ?_; refine st_pickF rfl rfl ?_) | (refine g_b_neq ?_; first | refine st_val rfl (r_neq rfl rfl) ?_ | refine st_val rfl (r_neqB rfl rfl) ?_) | (refine g_b_gtr ?_; refine st_val rfl (r_gtr rfl rfl) ?_) | (refine g_un ?_; refine st_val rfl (r_not rfl) ?_) | (refine g_extract ?_; refine st_val rfl (r_extract rfl rfl) ?_) | (refine g_c_len ?_; refine st_val rfl (r_lenSlice rfl) ?_) | (refine g_callV ?_; (refine st_callV rfl (r_call3 rfl rfl rfl rfl) (next_is (by omega) (S.rdRow (D := fGAppearance) (i := 0) rfl) (by omega) hf1 hf2) ?_; intro w hb; replace S := S.grow hb; clear hb)) | (refine g_alloc ?_; refine st_valE rfl (r_alloc S) ?_; rintro _ w ⟨b, rfl, -, S'⟩; replace S := S'; clear S') | (refine g_store ?_; first | (refine st_skipE rfl (r_storeVar (i := 0) S rfl rfl rfl rfl (of_decide_eq_true rfl) (of_decide_eq_true rfl)) ?_; intro w S'; replace S := S'; clear S') | (refine st_skipE rfl (r_storeVar (i := 1) S rfl rfl rfl rfl (of_decide_eq_true rfl) (of_decide_eq_true rfl)) ?_; intro w S'; replace S := S'; clear S') | (refine st_skipE rfl (r_storeVar (i := 2) S rfl rfl rfl rfl (of_decide_eq_true rfl) (of_decide_eq_true rfl)) ?_; intro w S'; replace S := S'; clear S')))
    refine st_callR rfl (r_call3 rfl rfl rfl rfl) (totals_is (by omega) (S.rdRow (D := fGAppearance) (i := 0) rfl) (by omega) htt he) ?_
    rintro _ w hb ⟨v2, rfl, hrow⟩
    replace S := S.new hb hrow
    clear hb hrow
    obtain ⟨A2, c2, hv2⟩ := (S.rdRow (D := fInt .i64) (i := 3) rfl).len
    subst hv2
    repeat' (first | refine WP_seq ?_ | refine WP_region ?_ | refine wl_nil ?_ | refine then_normal ?_ | refine WP_skip ?_ | refine WP_block ?_ | (refine g_move ?_; refine st_move rfl ?_) | (refine g_assign ?_; refine st_assign rfl ?_) | (refine g_pick ?_; refine st_pickF rfl rfl ?_) | (refine g_b_neq ?_; refine st_val rfl (r_neq rfl rfl) ?_) | (refine g_extract ?_; refine st_val rfl (r_extract rfl rfl) ?_) | (refine g_c_len ?_; refine st_val rfl (r_lenSlice rfl) ?_) | (refine WP_cond rfl (fun h => ?_) (fun h => ?_) <;> (fail_if_success (have hh : true = true := h)) <;> (fail_if_success (have hh : false = false := h)) <;> (try simp only [decide_eq_true_eq, decide_eq_false_iff_not, Bool.not_eq_true', Bool.not_eq_false', Int.not_lt, Int.not_le] at h) <;> (try (exfalso; omega))))
    refine WP_loop (fun z σ w1 => ∃ j : Nat, Has σ [(5, .bool true), (7, .int .i64 k), (14, .slice A2 tt.length c2), (16, .int .i64 (j : Int))] ∧ St w0 w1 [rowOb (fInt .i64) 3 (.slice A2 tt.length c2) tt] ∧ j ≤ k.toNat ∧ z = k.toNat - j) k.toNat ⟨0, ⟨rfl, rfl, rfl, rfl, trivial⟩, S.keep [false, false, false, true], by omega, by omega⟩ ?_
    clear S
    rintro z2 σ2 w2 ⟨j, hs2, S, hj1, rfl⟩
    refine WP_has hs2 ?_
    by_cases hj : j < k.toNat
    · have hjj := hev j (by omega)
      repeat' (first | refine WP_seq ?_ | refine WP_region ?_ | refine wl_nil ?_ | refine then_normal ?_ | refine inB_normal ?_ | refine WP_skip ?_ | refine WP_block ?_ | refine WP_draw (by kernel_rfl) (by kernel_rfl) ?_ | (refine ql_nil ?_; intro w hb; replace S := S.grow hb; clear hb) | (refine g_move ?_; refine st_move rfl ?_) | (refine g_assign ?_; refine st_assign rfl ?_) | (refine g_b_add ?_; (refine st_val rfl (r_addN rfl rfl ?_ ?_) ?_; (first | omega | (simp <;> omega)); (first | omega | (simp <;> omega)))) | (refine g_b_lss ?_; refine st_val rfl (r_lss rfl rfl) ?_) | (refine gq_move ?_; refine q_move rfl ?_) | (refine gq_b_neq ?_; refine q_val rfl (fun w' hb => r_neq rfl rfl) ?_) | (refine gq_indexAddr ?_; (refine q_val rfl (fun w' hb => r_indexAddr ((S.grow hb).rdRow (D := fInt .i64) (i := 0) rfl) rfl rfl ?_ ?_) ?_; (first | omega | (simp <;> omega)); (first | omega | (simp <;> omega)))) | (refine gq_load ?_; (refine q_val rfl (fun w' hb => r_loadElem1 ((S.grow hb).rdRow (D := fInt .i64) (i := 0) rfl) rfl ?_ ?_ rfl) ?_; (first | omega | (simp <;> omega)); (first | omega | (simp <;> omega)))) | (refine WP_cond rfl (fun h => ?_) (fun h => ?_) <;> (fail_if_success (have hh : true = true := h)) <;> (fail_if_success (have hh : false = false := h)) <;> (try simp only [decide_eq_true_eq, decide_eq_false_iff_not, Bool.not_eq_true', Bool.not_eq_false', Int.not_lt, Int.not_le] at h) <;> (try (exfalso; omega))))
      refine ⟨⟨_, ?_, j + 1, ⟨rfl, rfl, rfl, rfl, trivial⟩, S, by omega, rfl⟩⟩
      omega
    · repeat' (first | refine WP_seq ?_ | refine WP_region ?_ | refine wl_nil ?_ | refine then_normal ?_ | refine then_exit ?_ | refine inB_here ?_ | refine then_ret ?_ | refine inB_ret ?_ | refine WP_ret ?_ | refine WP_exit ?_ | (refine g_move ?_; refine st_move rfl ?_) | (refine g_assign ?_; refine st_assign rfl ?_) | (refine g_b_lss ?_; refine st_val rfl (r_lss rfl rfl) ?_) | (refine WP_cond rfl (fun h => ?_) (fun h => ?_) <;> (fail_if_success (have hh : true = true := h)) <;> (fail_if_success (have hh : false = false := h)) <;> (try simp only [decide_eq_true_eq, decide_eq_false_iff_not, Bool.not_eq_true', Bool.not_eq_false', Int.not_lt, Int.not_le] at h) <;> (try (exfalso; omega))))
      exact end1 rfl rfl ⟨rfl, S.below⟩
  · have hpl : prevA l (l.length : Int) = (nth l ((l.length : Int) - 1)).At := by unfold prevA; rw [if_neg (by omega)]
    rw [hpl] at hat hpm hcl hrs
    have hlast := (valid_el hvd (show l.length - 1 < l.length by omega)).2.1
    rw [show ((l.length - 1 : Nat) : Int) = (l.length : Int) - 1 by omega] at hlast
    obtain ⟨nw, hnw⟩ : ∃ nw : Int, nw = (nth l ((l.length : Int) - 1)).At := ⟨_, rfl⟩
    repeat' (first | refine WP_seq ?_ | refine WP_region ?_ | refine wl_nil ?_ | refine then_normal ?_ | refine WP_skip ?_ | refine WP_block ?_ | (refine g_move ?_; refine st_move rfl ?_) | (refine g_assign ?_; refine st_assign rfl ?_) | (refine g_b_sub ?_; (refine st_val rfl (r_subN rfl rfl ?_ ?_) ?_; (first | omega | (simp <;> omega)); (first | omega | (simp <;> omega)))) | (refine g_b_lss ?_; refine st_val rfl (r_lss rfl rfl) ?_) | (refine g_b_gtr ?_; refine st_val rfl (r_gtr rfl rfl) ?_) | (refine g_c_len ?_; refine st_val rfl (r_lenSlice rfl) ?_) | (refine g_fieldAddr ?_; refine st_val rfl (r_fieldAddr rfl) ?_) | (refine g_indexAddr ?_; (refine st_val rfl (r_indexAddr (S.rdRow (D := fGAppearance) (i := 0) rfl) rfl rfl ?_ ?_) ?_; (first | omega | (simp <;> omega)); (first | omega | (simp <;> omega)))) | (refine g_load ?_; (refine st_val rfl (r_loadElemF (S.rdRow (D := fGAppearance) (i := 0) rfl) rfl ?_ ?_ rfl) ?_; (first | omega | (simp <;> omega)); (first | omega | (simp <;> omega)))) | (refine WP_cond rfl (fun h => ?_) (fun h => ?_) <;> (fail_if_success (have hh : true = true := h)) <;> (fail_if_success (have hh : false = false := h)) <;> (try simp only [decide_eq_true_eq, decide_eq_false_iff_not, Bool.not_eq_true', Bool.not_eq_false', Int.not_lt, Int.not_le] at h) <;> (try (exfalso; omega))))
    rw [← hnw] at hat hpm hcl hrs hlast hpl ⊢
    have hok : okA k l nw = true := okA_of hvd (by omega) (by omega)
    have hcc : claimsI k l nw = openC k l nw l.length := by unfold claimsI; rw [if_pos hok]
    cases hq : openC k l nw l.length with
    | nil =>
      rw [hq] at hcc
      have he := err_of hok
      have hf1 : (firstI k l nw).1 = ⟨0, 0, 0, 0⟩ := by unfold firstI; rw [hcc]; rfl
      have hf2 : (firstI k l nw).2 = false := by unfold firstI; rw [hcc]; rfl
      have hev := even_plain hok hcc
      have htl := tot_len hok
      generalize htt : totI k l nw = tt at *
      refine st_callR rfl (r_call3 rfl rfl rfl rfl) (claims_is (by omega) (S.rdRow (D := fGAppearance) (i := 0) rfl) (by omega) hcc he) ?_
      rintro _ w hb ⟨v1, rfl, hrow⟩
      replace S := S.new hb hrow
      clear hb hrow
      obtain ⟨A1, c1, hv1⟩ := (S.rdRow (D := fGClaim) (i := 1) rfl).len
      subst hv1
      repeat' (first | refine WP_seq ?_ | refine WP_region ?_ | refine wl_nil ?_ | refine then_normal ?_ | refine WP_skip ?_ | refine WP_condT rfl ?_ | refine WP_condF rfl ?_ | (refine g_move ?_; refine st_move rfl ?_) | (refine g_assign ?_; refine st_assign rfl ?_) | (refine g_pick ?_; refine st_pickF rfl rfl ?_) | (refine g_b_neq ?_; first | refine st_val rfl (r_neq rfl rfl) ?_ | refine st_val rfl (r_neqB rfl rfl) ?_) | (refine g_b_gtr ?_; refine st_val rfl (r_gtr rfl rfl) ?_) | (refine g_un ?_; refine st_val rfl (r_not rfl) ?_) | (refine g_extract ?_; refine st_val rfl (r_extract rfl rfl) ?_) | (refine g_c_len ?_; refine st_val rfl (r_lenSlice rfl) ?_) | (refine g_callV ?_; (refine st_callV rfl (r_call3 rfl rfl rfl rfl) (next_is (by omega) (S.rdRow (D := fGAppearance) (i := 0) rfl) (by omega) hf1 hf2) ?_; intro w hb; replace S := S.grow hb; clear hb)) | (refine g_alloc ?_; refine st_valE rfl (r_alloc S) ?_; rintro _ w ⟨b, rfl, -, S'⟩; replace S := S'; clear S') | (refine g_store ?_; first | (refine st_skipE rfl (r_storeVar (i := 0) S rfl rfl rfl rfl (of_decide_eq_true rfl) (of_decide_eq_true rfl)) ?_; intro w S'; replace S := S'; clear S') | (refine st_skipE rfl (r_storeVar (i := 1) S rfl rfl rfl rfl (of_decide_eq_true rfl) (of_decide_eq_true rfl)) ?_; intro w S'; replace S := S'; clear S') | (refine st_skipE rfl (r_storeVar (i := 2) S rfl rfl rfl rfl (of_decide_eq_true rfl) (of_decide_eq_true rfl)) ?_; intro w S'; replace S := S'; clear S')))
      refine st_callR rfl (r_call3 rfl rfl rfl rfl) (totals_is (by omega) (S.rdRow (D := fGAppearance) (i := 0) rfl) (by omega) htt he) ?_
      rintro _ w hb ⟨v2, rfl, hrow⟩
      replace S := S.new hb hrow
      clear hb hrow
      obtain ⟨A2, c2, hv2⟩ := (S.rdRow (D := fInt .i64) (i := 3) rfl).len
      subst hv2
      repeat' (first | refine WP_seq ?_ | refine WP_region ?_ | refine wl_nil ?_ | refine then_normal ?_ | refine WP_skip ?_ | refine WP_block ?_ | (refine g_move ?_; refine st_move rfl ?_) | (refine g_assign ?_; refine st_assign rfl ?_) | (refine g_pick ?_; refine st_pickF rfl rfl ?_) | (refine g_b_neq ?_; refine st_val rfl (r_neq rfl rfl) ?_) | (refine g_extract ?_; refine st_val rfl (r_extract rfl rfl) ?_) | (refine g_c_len ?_; refine st_val rfl (r_lenSlice rfl) ?_) | (refine WP_cond rfl (fun h => ?_) (fun h => ?_) <;> (fail_if_success (have hh : true = true := h)) <;> (fail_if_success (have hh : false = false := h)) <;> (try simp only [decide_eq_true_eq, decide_eq_false_iff_not, Bool.not_eq_true', Bool.not_eq_false', Int.not_lt, Int.not_le] at h) <;> (try (exfalso; omega))))
      refine WP_loop (fun z σ w1 => ∃ j : Nat, Has σ [(5, .bool true), (7, .int .i64 k), (14, .slice A2 tt.length c2), (16, .int .i64 (j : Int))] ∧ St w0 w1 [rowOb (fInt .i64) 3 (.slice A2 tt.length c2) tt] ∧ j ≤ k.toNat ∧ z = k.toNat - j) k.toNat ⟨0, ⟨rfl, rfl, rfl, rfl, trivial⟩, S.keep [false, false, false, true], by omega, by omega⟩ ?_
      clear S
      rintro z2 σ2 w2 ⟨j, hs2, S, hj1, rfl⟩
      refine WP_has hs2 ?_
      by_cases hj : j < k.toNat
      · have hjj := hev j (by omega)
        repeat' (first | refine WP_seq ?_ | refine WP_region ?_ | refine wl_nil ?_ | refine then_normal ?_ | refine inB_normal ?_ | refine WP_skip ?_ | refine WP_block ?_ | refine WP_draw (by kernel_rfl) (by kernel_rfl) ?_ | (refine ql_nil ?_; intro w hb; replace S := S.grow hb; clear hb) | (refine g_move ?_; refine st_move rfl ?_) | (refine g_assign ?_; refine st_assign rfl ?_) | (refine g_b_add ?_; (refine st_val rfl (r_addN rfl rfl ?_ ?_) ?_; (first | omega | (simp <;> omega)); (first | omega | (simp <;> omega)))) | (refine g_b_lss ?_; refine st_val rfl (r_lss rfl rfl) ?_) | (refine gq_move ?_; refine q_move rfl ?_) | (refine gq_b_neq ?_; refine q_val rfl (fun w' hb => r_neq rfl rfl) ?_) | (refine gq_indexAddr ?_; (refine q_val rfl (fun w' hb => r_indexAddr ((S.grow hb).rdRow (D := fInt .i64) (i := 0) rfl) rfl rfl ?_ ?_) ?_; (first | omega | (simp <;> omega)); (first | omega | (simp <;> omega)))) | (refine gq_load ?_; (refine q_val rfl (fun w' hb => r_loadElem1 ((S.grow hb).rdRow (D := fInt .i64) (i := 0) rfl) rfl ?_ ?_ rfl) ?_; (first | omega | (simp <;> omega)); (first | omega | (simp <;> omega)))) | (refine WP_cond rfl (fun h => ?_) (fun h => ?_) <;> (fail_if_success (have hh : true = true := h)) <;> (fail_if_success (have hh : false = false := h)) <;> (try simp only [decide_eq_true_eq, decide_eq_false_iff_not, Bool.not_eq_true', Bool.not_eq_false', Int.not_lt, Int.not_le] at h) <;> (try (exfalso; omega))))
        refine ⟨⟨_, ?_, j + 1, ⟨rfl, rfl, rfl, rfl, trivial⟩, S, by omega, rfl⟩⟩
        omega
      · repeat' (first | refine WP_seq ?_ | refine WP_region ?_ | refine wl_nil ?_ | refine then_normal ?_ | refine then_exit ?_ | refine inB_here ?_ | refine then_ret ?_ | refine inB_ret ?_ | refine WP_ret ?_ | refine WP_exit ?_ | (refine g_move ?_; refine st_move rfl ?_) | (refine g_assign ?_; refine st_assign rfl ?_) | (refine g_b_lss ?_; refine st_val rfl (r_lss rfl rfl) ?_) | (refine WP_cond rfl (fun h => ?_) (fun h => ?_) <;> (fail_if_success (have hh : true = true := h)) <;> (fail_if_success (have hh : false = false := h)) <;> (try simp only [decide_eq_true_eq, decide_eq_false_iff_not, Bool.not_eq_true', Bool.not_eq_false', Int.not_lt, Int.not_le] at h) <;> (try (exfalso; omega))))
        exact end1 rfl rfl ⟨rfl, S.below⟩
    | cons x r =>
      rw [hq] at hcc hcl hrs
      have he := err_of hok
      have hf1 : (firstI k l nw).1 = x := by unfold firstI; rw [hcc]; rfl
      have hf2 : (firstI k l nw).2 = true := by unfold firstI; rw [hcc]; rfl
      have hxr := hrs x (List.mem_cons_self ..)
      have hxm := (openC_ok (now := nw) hvd l.length (Nat.le_refl _)).mem x (by rw [hq]; exact List.mem_cons_self ..)
      rw [List.length_cons] at hcl
      have hst := serves_step hvd (by omega) hq hat (by omega) (by omega) (by omega)
      have hok2 : okA k (l ++ [⟨x.Candidate, nw + 1, x.Rest, 1⟩]) (nw + 1) = true := okA_of hst.1 (by omega) (by omega)
      have hll2 : (l ++ [(⟨x.Candidate, nw + 1, x.Rest, 1⟩ : GAppearance)]).length = l.length + 1 := by simp
      have hcc2 : claimsI k (l ++ [⟨x.Candidate, nw + 1, x.Rest, 1⟩]) (nw + 1) = r := by unfold claimsI; rw [if_pos hok2, hll2]; exact hst.2
      have he2 := err_of hok2
      have hpl2 : prevA (l ++ [⟨x.Candidate, nw + 1, x.Rest, 1⟩]) (((l ++ [(⟨x.Candidate, nw + 1, x.Rest, 1⟩ : GAppearance)]).length : Nat) : Int) = nw + 1 := by
        rw [hll2]; unfold prevA; rw [if_neg (by omega), show (((l.length + 1 : Nat) : Int) - 1) = (l.length : Int) by omega, nth_lastA]
      have hn0 : nth (x :: r) 0 = x := rfl
      have hlen : ((x :: r).length : Int) = (r.length : Int) + 1 := by rw [List.length_cons]; omega
      have hdl : decide ((0 : Int) < ((x :: r).length : Int)) = true := decide_eq_true (by omega)
      refine st_callR rfl (r_call3 rfl rfl rfl rfl) (claims_is (by omega) (S.rdRow (D := fGAppearance) (i := 0) rfl) (by omega) hcc he) ?_
      rintro _ w hb ⟨v1, rfl, hrow⟩
      replace S := S.new hb hrow
      clear hb hrow
      obtain ⟨A1, c1, hv1⟩ := (S.rdRow (D := fGClaim) (i := 1) rfl).len
      subst hv1
      repeat' (first | refine WP_seq ?_ | refine WP_region ?_ | refine wl_nil ?_ | refine then_normal ?_ | refine WP_skip ?_ | refine WP_condF rfl ?_ | refine WP_draw (by kernel_rfl) (by kernel_rfl) ?_ | (refine ql_nil ?_; intro w hb; replace S := S.grow hb; clear hb) | (refine g_move ?_; refine st_move rfl ?_) | (refine g_assign ?_; refine st_assign rfl ?_) | (refine g_pick ?_; refine st_pickF rfl rfl ?_) | (refine g_b_add ?_; (refine st_val rfl (r_addN rfl rfl ?_ ?_) ?_; (first | omega | (simp <;> omega)); (first | omega | (simp <;> omega)))) | (refine g_b_neq ?_; first | refine st_val rfl (r_neq rfl rfl) ?_ | refine st_val rfl (r_neqB rfl rfl) ?_) | (refine g_b_gtr ?_; refine st_val rfl (r_gtr rfl rfl) ?_) | (refine g_build ?_; refine st_val rfl (bd49_0_1_2_3 rfl rfl rfl rfl) ?_) | (refine g_un ?_; refine st_val rfl (r_not rfl) ?_) | (refine g_extract ?_; refine st_val rfl (r_extract rfl rfl) ?_) | (refine g_c_len ?_; refine st_val rfl (r_lenSlice rfl) ?_) | (refine g_fieldAddr ?_; refine st_val rfl (r_fieldAddrL rfl) ?_) | (refine g_load ?_; refine st_val rfl (r_loadVar (i := 2) S rfl rfl rfl) ?_) | (refine g_callV ?_; (refine st_callV rfl (r_call3 rfl rfl rfl rfl) (next_is (by omega) (S.rdRow (D := fGAppearance) (i := 0) rfl) (by omega) hf1 hf2) ?_; intro w hb; replace S := S.grow hb; clear hb)) | (refine gq_move ?_; refine q_move rfl ?_) | (refine gq_pick ?_; refine q_pickF rfl rfl ?_) | (refine gq_b_neq ?_; refine q_val rfl (fun w' hb => neq39 rfl rfl) ?_) | (refine gq_b_lss ?_; refine q_val rfl (fun w' hb => r_lss rfl rfl) ?_) | (refine gq_b_gtr ?_; refine q_val rfl (fun w' hb => r_gtr rfl rfl) ?_) | (refine gq_fieldAddr ?_; refine q_val rfl (fun w' hb => r_fieldAddrL rfl) ?_) | (refine gq_indexAddr ?_; (refine q_val rfl (fun w' hb => r_indexAddr ((S.grow hb).rdRow (D := fGClaim) (i := 1) rfl) rfl rfl ?_ ?_) ?_; (first | omega | (simp <;> omega)); (first | omega | (simp <;> omega)))) | (refine gq_load ?_; first | (refine q_val rfl (fun w' hb => r_loadElem ((S.grow hb).rdRow (D := fGClaim) (i := 1) rfl) rfl ?_ ?_) ?_; (first | omega | (simp <;> omega)); (first | omega | (simp <;> omega))) | refine q_val rfl (fun w' hb => r_loadVar (i := 2) (S.grow hb) rfl rfl rfl) ?_ | refine q_val rfl (fun w' hb => r_loadVarA (i := 2) (S.grow hb) rfl rfl rfl rfl) ?_) | (refine g_alloc ?_; refine st_valE rfl (r_alloc S) ?_; rintro _ w ⟨b, rfl, -, S'⟩; replace S := S'; clear S') | (refine g_store ?_; first | (refine st_skipE rfl (r_storeVar (i := 0) S rfl rfl rfl rfl (of_decide_eq_true rfl) (of_decide_eq_true rfl)) ?_; intro w S'; replace S := S'; clear S') | (refine st_skipE rfl (r_storeVar (i := 1) S rfl rfl rfl rfl (of_decide_eq_true rfl) (of_decide_eq_true rfl)) ?_; intro w S'; replace S := S'; clear S') | (refine st_skipE rfl (r_storeVar (i := 2) S rfl rfl rfl rfl (of_decide_eq_true rfl) (of_decide_eq_true rfl)) ?_; intro w S'; replace S := S'; clear S')) | (refine ql_split rfl rfl (fun h => ?_) (fun h => ?_) <;> (fail_if_success (have hh : true = true := h)) <;> (fail_if_success (have hh : false = false := h)) <;> (try simp only [decide_eq_true_eq, decide_eq_false_iff_not, Bool.not_eq_true', Bool.not_eq_false', Int.not_lt, Int.not_le] at h) <;> (try (exfalso; omega)) <;> (try (exfalso; (first | exact absurd trivial h | exact h hdl.symm | exact h rfl | (simp at h)); done))) | (refine WP_cond rfl (fun h => ?_) (fun h => ?_) <;> (fail_if_success (have hh : true = true := h)) <;> (fail_if_success (have hh : false = false := h)) <;> (try simp only [decide_eq_true_eq, decide_eq_false_iff_not, Bool.not_eq_true', Bool.not_eq_false', Int.not_lt, Int.not_le] at h) <;> (try (exfalso; omega)) <;> (try (exfalso; (first | exact absurd trivial h | exact h hdl.symm | exact h rfl | (simp at h)); done))))
      refine st_valE rfl (r_litF (D := fGAppearance) [⟨x.Candidate, nw + 1, x.Rest, 1⟩] (fun x => .agg x.enc.toArray) S rfl rfl (fun _ => rfl) rfl (by decide) (by decide)) ?_
      rintro _ w ⟨bl, rfl, -, -, S'⟩
      replace S := S'
      clear S'
      refine st_valE rfl (r_appendRd (i := 0) (D := fGAppearance) S rfl (S.rdRow (D := fGAppearance) (i := 3) rfl) rfl rfl rfl (by decide) oneA (by rw [List.length_singleton]; omega) (by rw [List.length_singleton]; omega)) ?_
      rintro v2 w ⟨_, S'⟩
      replace S : St w0 w [rowOb fGAppearance 49 v2 (l ++ [⟨x.Candidate, nw + 1, x.Rest, 1⟩]), rowOb fGClaim 39 (.slice A1 (x :: r).length c1) (x :: r)] := S'.keep [true, true, false, false]
      clear S'
      repeat' (first | refine WP_seq ?_ | refine WP_region ?_ | refine wl_nil ?_ | refine then_normal ?_ | (refine g_move ?_; refine st_move rfl ?_) | (refine g_assign ?_; refine st_assign rfl ?_) | (refine g_b_add ?_; (refine st_val rfl (r_addN rfl rfl ?_ ?_) ?_; (first | omega | (simp <;> omega)); (first | omega | (simp <;> omega)))))
      refine st_callR rfl (r_call3 rfl rfl rfl rfl) (claims_is (by omega) (S.rdRow (D := fGAppearance) (i := 0) rfl) (by rw [hll2]; omega) hcc2 he2) ?_
      rintro _ w hb ⟨v3, rfl, hrow⟩
      replace S := S.new hb hrow
      clear hb hrow
      have hcut : ∀ {w : World}, Rd fGClaim.ty w (.slice A1 (x :: r).length c1) (x :: r) → Rd fGClaim.ty w (sliceV (.slice A1 (x :: r).length c1) (1 : Int).toNat (x :: r).length fGClaim.ty.sz) r := fun {w} h => by
        have := h.cut (lo := 1) (hi := (x :: r).length) (by rw [List.length_cons]; omega) (Nat.le_refl _)
        rwa [List.take_length] at this
      repeat' (first | refine WP_seq ?_ | refine WP_region ?_ | refine wl_nil ?_ | refine then_normal ?_ | refine inB_normal ?_ | refine WP_skip ?_ | refine WP_condF rfl ?_ | (refine g_move ?_; refine st_move rfl ?_) | (refine g_assign ?_; refine st_assign rfl ?_) | (refine g_pick ?_; refine st_pickF rfl rfl ?_) | (refine g_b_add ?_; (refine st_val rfl (r_addN rfl rfl ?_ ?_) ?_; (first | omega | (simp <;> omega)); (first | omega | (simp <;> omega)))) | (refine g_b_neq ?_; refine st_val rfl (r_neq rfl rfl) ?_) | (refine g_un ?_; refine st_val rfl (r_not rfl) ?_) | (refine g_extract ?_; refine st_val rfl (r_extract rfl rfl) ?_) | (refine g_callV ?_; (refine st_callV rfl (r_call2 rfl rfl rfl) (same_is (S.rdRow (D := fGClaim) (i := 2) rfl) (hcut (S.rdRow (D := fGClaim) (i := 1) rfl)) (by omega) (by omega) (decide_eq_true rfl)) ?_; intro w hb; replace S := S.grow hb; clear hb)) | (refine st_val rfl (r_sliceLo (S.rdRow (D := fGClaim) (i := 1) rfl) rfl rfl (by omega) (by omega)) ?_))
      refine ⟨⟨_, ?_, i + 1, l ++ [(⟨x.Candidate, nw + 1, x.Rest, 1⟩ : GAppearance)], v2, ⟨rfl, rfl, rfl, rfl, trivial⟩, S.keep [true, false, false], hst.1, by omega, fun h => by omega, ?_, by omega, ?_, ?_, rfl⟩⟩
      · omega
      · intro j hj
        rw [hpl2]
        rw [hll2] at hj
        by_cases e : j = l.length
        · subst e; rw [nth_lastA]; exact Int.le_refl _
        · rw [nth_appA (by omega)]; have := hat j (by omega); omega
      · rw [hpl2, hll2, hst.2]; omega
      · rw [hpl2, hll2, hst.2]; exact fun c hc => hrs c (List.mem_cons_of_mem _ hc)
end Go.Proofs.Ytcbidfedffegpaa
