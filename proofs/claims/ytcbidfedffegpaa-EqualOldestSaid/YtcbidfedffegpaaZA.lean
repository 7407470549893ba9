import Derived.Test.YtcbidfedffegpaaX
namespace Go.Proofs.Ytcbidfedffegpaa
open Go Go.Gx Go.RowKit
set_option linter.unusedVariables false
set_option linter.unusedSimpArgs false
theorem nth_getElem {α : Type} [Inhabited α] {l : List α} {i : Nat} (h : i < l.length) : l[i]? = some (nth l (i : Int)) := by
  have := nth_get (l := l) (i := (i : Int)) (by omega) (by omega)
  rwa [Int.toNat_natCast] at this
theorem byC_snoc2 {l : List GClaim} {j : Nat} {x : GClaim} (hx : l[j]? = some x) (k : Nat) : sumR (byC k (l.take (j + 1))) = sumR (byC k (l.take j)) + (if x.Candidate = (k : Int) then x.Rest else 0) := by
  rw [byC_snoc hx, sumR_append]
  split
  · simp [sumR]
  · simp [sumR]
theorem map_nth {f : Nat → Int} {n : Nat} {c : Int} (h0 : 0 ≤ c) (h : c < n) : nth ((List.range n).map f) c = f c.toNat := by
  unfold nth; rw [List.getD_eq_getElem?_getD, List.getElem?_map, List.getElem?_range (by omega)]; rfl
set_option maxRecDepth 20000 in
set_option maxHeartbeats 16000000 in
theorem oldest_spec {n now : Int} {v : Value} {xs : List GArr4Int} {w0 : World} (hn : inI n) (hr : Rd fGArr4Int.ty w0 v xs) (hx : ∀ x ∈ xs, okA4 x) (hl : xs.length ≤ maxLen) (ht : inI now) :
    CallsV Try.prog 6 #[.int .i64 n, v, .int .i64 now] w0 (.bool true) := by
  have S := St.start w0
  have hcn := cntI_range n
  have hml := madeA_len n xs
  have hvd := madeA_valid n xs
  obtain ⟨A0, c0, rfl⟩ := hr.len
  have hn' := hn
  unfold inI at hn' ht
  have hp := pickI_range (c := now) (n := 3000000) (by omega)
  refine CallsV.mk ?_
  refine calls_enter Try.func6 rfl (by intro _ h; first | exact nomatch h.1 | (obtain ⟨_, h, _⟩ := h; exact nomatch h)) Try.ntmps6 rfl ?_
  repeat' (first | refine WP_seq ?_ | refine WP_region ?_ | refine wl_nil ?_ | refine then_normal ?_ | refine WP_skip ?_ | refine WP_condF rfl ?_ | (refine g_move ?_; refine st_move rfl ?_) | (refine g_assign ?_; refine st_assign rfl ?_) | (refine g_un ?_; refine st_val rfl (r_not rfl) ?_) | (refine g_callV ?_; (refine st_callV rfl (r_call0 rfl) (sane_spec) ?_; intro w hb; replace S := S.grow hb; clear hb)))
  refine st_callR rfl (r_call2 rfl rfl rfl) (made_run hn (hr.mono S.below) hx hl) ?_
  rintro vl w hb hrow
  replace S := S.new hb hrow
  clear hb hrow
  generalize madeA n xs = l at *
  obtain ⟨Al, cl, hvl⟩ := (S.rdRow (D := fGAppearance) (i := 0) rfl).len
  subst hvl
  repeat' (first | refine WP_seq ?_ | refine WP_region ?_ | refine wl_nil ?_ | refine then_normal ?_ | (refine g_move ?_; refine st_move rfl ?_) | (refine g_assign ?_; refine st_assign rfl ?_) | (refine g_callV ?_; first | (refine st_callV rfl (r_call1 rfl rfl) (count_spec (by omega) (by omega)) ?_; intro w hb; replace S := S.grow hb; clear hb) | (refine st_callV rfl (r_call2 rfl rfl rfl) (pick_spec (by omega) (by omega) (by omega)) ?_; intro w hb; replace S := S.grow hb; clear hb)))
  generalize pickI now 3000000 = s at *
  generalize cntI n = k at *
  have hok : okA k l s = true := okA_of hvd (by omega) (by omega)
  have he := err_of hok
  have hcc : claimsI k l s = openC k l s l.length := by unfold claimsI; rw [if_pos hok]
  have hoe : oweI k l s = (List.range k.toNat).map fun j => sumR (byC j (openC k l s l.length)) := by unfold oweI sumsI; rw [if_pos hok, hcc]
  have hol := owe_len hok
  have hcl := openC_lenm (n := k) (l := l) (now := s) (by omega) l.length
  have hq := openC_ok (now := s) hvd l.length (Nat.le_refl _)
  have hsrc := openC_src (now := s) hvd l.length (Nat.le_refl _)
  have hrst := fun i c => oldest_rest (s := s) (i := i) (c := c) hvd
  have hbef := fun j a b => before_owe (s := s) (j := j) hvd a b
  have hkk : (k.toNat : Int) = k := by omega
  refine st_callR rfl (r_call3 rfl rfl rfl rfl) (claims_is (by omega) (S.rdRow (D := fGAppearance) (i := 0) rfl) (by omega) hcc he) ?_
  rintro _ w hb ⟨vc, rfl, hrow⟩
  replace S := S.new hb hrow
  clear hb hrow
  repeat' (first | refine WP_seq ?_ | refine WP_region ?_ | refine wl_nil ?_ | refine then_normal ?_ | (refine g_move ?_; refine st_move rfl ?_) | (refine g_assign ?_; refine st_assign rfl ?_) | (refine g_extract ?_; refine st_val rfl (r_extract rfl rfl) ?_))
  refine st_callR rfl (r_call3 rfl rfl rfl rfl) (owed_is (by omega) (S.rdRow (D := fGAppearance) (i := 0) rfl) (by omega) rfl he) ?_
  rintro _ w hb ⟨vo, rfl, hrow⟩
  replace S := S.new hb hrow
  clear hb hrow
  generalize openC k l s l.length = q at *
  generalize hoo : oweI k l s = oo at *
  obtain ⟨Ac, cc, hvc⟩ := (S.rdRow (D := fGClaim) (i := 1) rfl).len
  subst hvc
  obtain ⟨Ao, co, hvo⟩ := (S.rdRow (D := fInt .i64) (i := 2) rfl).len
  subst hvo
  repeat' (first | refine WP_seq ?_ | refine WP_region ?_ | refine wl_nil ?_ | refine then_normal ?_ | refine WP_skip ?_ | (refine g_move ?_; refine st_move rfl ?_) | (refine g_assign ?_; refine st_assign rfl ?_) | (refine g_pick ?_; refine st_pickF rfl rfl ?_) | (refine g_b_neq ?_; refine st_val rfl (r_neq rfl rfl) ?_) | (refine g_extract ?_; refine st_val rfl (r_extract rfl rfl) ?_) | (refine g_c_len ?_; refine st_val rfl (r_lenSlice rfl) ?_) | (refine WP_cond rfl (fun h => ?_) (fun h => ?_) <;> (fail_if_success (have hh : true = true := h)) <;> (fail_if_success (have hh : false = false := h)) <;> (try simp only [decide_eq_true_eq, decide_eq_false_iff_not, Bool.not_eq_true', Bool.not_eq_false', Int.not_lt, Int.not_le] at h) <;> (try (exfalso; omega))))
  refine st_valE rfl (r_makeF (D := fInt .i64) (m := k.toNat) 0 S (by show Value.int .i64 k = .int .i64 (k.toNat : Int); rw [hkk]) (by show Value.int .i64 k = .int .i64 (k.toNat : Int); rw [hkk]) rfl (by decide) (by omega) (by omega)) ?_
  rintro _ w ⟨bo, rfl, -, S'⟩
  replace S := S'.front
  clear S'
  rw [show List.replicate k.toNat (0 : Int) = (List.range k.toNat).map fun j => sumR (byC j (q.take 0)) by symm; rw [List.eq_replicate_iff]; refine ⟨by simp, fun b hb => ?_⟩; obtain ⟨j, _, rfl⟩ := List.mem_map.1 hb; rfl] at S
  repeat' (first | refine WP_seq ?_ | refine WP_region ?_ | refine wl_nil ?_ | refine then_normal ?_ | refine WP_block ?_ | (refine g_assign ?_; refine st_assign rfl ?_))
  refine WP_loop (fun z σ w1 => ∃ i : Nat, Has σ [(8, .slice Al l.length cl), (9, .int .i64 k), (10, .int .i64 s), (11, .slice Ac q.length cc), (13, .slice Ao oo.length co), (15, .slice (some ⟨bo, 0, none⟩) k.toNat k.toNat), (16, .int .i64 (i : Int))] ∧ St w0 w1 [rowOb (fInt .i64) 3 (.slice (some ⟨bo, 0, none⟩) k.toNat k.toNat) ((List.range k.toNat).map fun j => sumR (byC j (q.take i))), rowOb fGAppearance 49 (.slice Al l.length cl) l, rowOb fGClaim 39 (.slice Ac q.length cc) q, rowOb (fInt .i64) 3 (.slice Ao oo.length co) oo] ∧ i ≤ q.length ∧ z = q.length - i) q.length ⟨0, ⟨rfl, rfl, rfl, rfl, rfl, rfl, rfl, trivial⟩, S, by omega, by omega⟩ ?_
  clear S
  rintro z σ w1 ⟨i, hs', S, hi1, rfl⟩
  refine WP_has hs' ?_
  have htl : ((List.range k.toNat).map fun j => sumR (byC j (q.take i))).length = k.toNat := by simp
  by_cases hi : i < q.length
  · have hxg := nth_getElem hi
    have hxm := hq.mem _ (List.mem_of_getElem? hxg)
    obtain ⟨j, hj, f1, f2, f3, f4⟩ := hsrc _ (List.mem_of_getElem? hxg)
    have hrx := hrst i _ hxg
    obtain ⟨e1, e2, e3, e4, e5⟩ := valid_el hvd hj
    have hwb := worth_bound e3 e4
    have hbj := fun a => hbef j hj a f3
    rw [← f1] at e1 e2 e3 e4 hwb f2 f3 f4
    have hwm : (nth l (nth q (i : Int)).Of).Seconds * (nth l (nth q (i : Int)).Of).Weight = worthA (nth l (nth q (i : Int)).Of) := rfl
    have hprev : i = 0 ∨ (nth q ((i : Int) - 1)).Of < (nth q (i : Int)).Of ∨ ((nth q ((i : Int) - 1)).Of = (nth q (i : Int)).Of ∧ (nth q ((i : Int) - 1)).Candidate < (nth q (i : Int)).Candidate) := by
      by_cases h0 : i = 0
      · exact .inl h0
      · have g1 := nth_getElem (l := q) (i := i - 1) (by omega)
        rw [show ((i - 1 : Nat) : Int) = (i : Int) - 1 by omega] at g1
        have hil1 : i - 1 < q.length := by omega
        have := List.pairwise_iff_getElem.1 hq.pw (i - 1) i hil1 hi (by omega)
        have q1 : q[i - 1] = nth q ((i : Int) - 1) := Option.some.inj (by rw [← List.getElem?_eq_getElem hil1]; exact g1)
        have q2 : q[i] = nth q (i : Int) := Option.some.inj (by rw [← List.getElem?_eq_getElem hi]; exact hxg)
        rw [q1, q2] at this
        exact .inr this
    have hsn := sums_snoc (n := k.toNat) hxg hxm.1.1 (by omega)
    have hnt : nth ((List.range k.toNat).map fun j => sumR (byC j (q.take i))) (nth q (i : Int)).Candidate = sumR (byC (nth q (i : Int)).Candidate.toNat (q.take i)) := map_nth hxm.1.1 (by omega)
    have hsb := sumR_bound (byC (nth q (i : Int)).Candidate.toNat (q.take i)) (fun c hc => (hq.mem c (List.mem_of_mem_take (List.mem_filter.1 hc).1)).2.2)
    have hbl : (byC (nth q (i : Int)).Candidate.toNat (q.take i)).length ≤ 480 := by
      unfold byC; exact Nat.le_trans (List.length_filter_le _ _) (by rw [List.length_take]; omega)
    have hz : (nth q (i : Int)).Rest < leftA k l s (nth q (i : Int)).Of → sumR (byC (nth q (i : Int)).Candidate.toNat (q.take i)) = 0 := fun h => by rw [hrx.2 h]; rfl
    generalize hfs : ((List.range k.toNat).map fun j => sumR (byC j (q.take i))) = fs at S htl hsn hnt
    by_cases hof : (nth q (i : Int)).Of = 0
    · have hla : leftA k l s (nth q (i : Int)).Of = worthA (nth l (nth q (i : Int)).Of) := by
        rw [hof]; rw [hof] at hwb
        have h0 : owAt k l s 0 (nth l 0).Candidate.toNat = 0 := rfl
        unfold leftA
        rw [show (0 : Int).toNat = 0 from rfl, h0]; omega
      rw [hla] at hrx hz
      repeat' (first | refine WP_seq ?_ | refine WP_region ?_ | refine wl_nil ?_ | refine then_normal ?_ | refine WP_skip ?_ | refine WP_block ?_ | refine WP_condF rfl ?_ | refine WP_drawTail 12 (by kernel_rfl) (by decide +kernel) ?_ | refine WP_draw (by kernel_rfl) (by kernel_rfl) ?_ | (refine ql_nil ?_; intro w hb; replace S := S.grow hb; clear hb) | (refine g_guard ?_; refine st_off rfl ?_) | (refine g_move ?_; refine st_move rfl ?_) | (refine g_assign ?_; refine st_assign rfl ?_) | (refine g_pick ?_; first | refine st_pickT rfl rfl ?_ | refine st_pickF rfl rfl ?_) | (refine g_b_mul ?_; (refine st_val rfl (r_mulN rfl rfl ?_ ?_) ?_; (first | omega | (simp <;> omega)); (first | omega | (simp <;> omega)))) | (refine g_b_lss ?_; refine st_val rfl (r_lss rfl rfl) ?_) | (refine g_b_gtr ?_; refine st_val rfl (r_gtr rfl rfl) ?_) | (refine g_b_geq ?_; refine st_val rfl (r_geq rfl rfl) ?_) | (refine g_c_len ?_; refine st_val rfl (r_lenSlice rfl) ?_) | (refine g_fieldAddr ?_; refine st_val rfl (r_fieldAddrL rfl) ?_) | (refine g_indexAddr ?_; first | (refine st_val rfl (r_indexAddr (S.rdRow (D := fGClaim) (i := 2) rfl) rfl rfl ?_ ?_) ?_; (first | omega | (simp <;> omega)); (first | omega | (simp <;> omega))) | (refine st_val rfl (r_indexAddr (S.rdRow (D := fInt .i64) (i := 1) rfl) rfl rfl ?_ ?_) ?_; (first | omega | (simp <;> omega)); (first | omega | (simp <;> omega)))) | (refine g_load ?_; first | (refine st_val rfl (r_loadElem (S.rdRow (D := fGClaim) (i := 2) rfl) rfl ?_ ?_) ?_; (first | omega | (simp <;> omega)); (first | omega | (simp <;> omega))) | (refine st_val rfl (r_loadElem1 (S.rdRow (D := fInt .i64) (i := 1) rfl) rfl ?_ ?_ rfl) ?_; (first | omega | (simp <;> omega)); (first | omega | (simp <;> omega))) | refine st_val rfl (r_loadVar (i := 0) S rfl rfl rfl) ?_) | (refine gq_guard ?_; refine q_off rfl ?_) | (refine gq_move ?_; refine q_move rfl ?_) | (refine gq_pick ?_; first | refine q_pickT rfl rfl ?_ | refine q_pickF rfl rfl ?_) | (refine gq_b_add ?_; (refine q_val rfl (fun w' hb => r_addN rfl rfl ?_ ?_) ?_; (first | omega | (simp <;> omega)); (first | omega | (simp <;> omega)))) | (refine gq_b_sub ?_; (refine q_val rfl (fun w' hb => r_subN rfl rfl ?_ ?_) ?_; (first | omega | (simp <;> omega)); (first | omega | (simp <;> omega)))) | (refine gq_b_eql ?_; refine q_val rfl (fun w' hb => r_eql rfl rfl) ?_) | (refine gq_b_neq ?_; refine q_val rfl (fun w' hb => r_neq rfl rfl) ?_) | (refine gq_b_lss ?_; refine q_val rfl (fun w' hb => r_lss rfl rfl) ?_) | (refine gq_b_leq ?_; refine q_val rfl (fun w' hb => r_leq rfl rfl) ?_) | (refine gq_b_gtr ?_; refine q_val rfl (fun w' hb => r_gtr rfl rfl) ?_) | (refine gq_fieldAddr ?_; first | refine q_val rfl (fun w' hb => r_fieldAddrL rfl) ?_ | refine q_val rfl (fun w' hb => r_fieldAddr rfl) ?_) | (refine gq_indexAddr ?_; first | (refine q_val rfl (fun w' hb => r_indexAddr ((S.grow hb).rdRow (D := fGAppearance) (i := 2) rfl) rfl rfl ?_ ?_) ?_; (first | omega | (simp <;> omega)); (first | omega | (simp <;> omega))) | (refine q_val rfl (fun w' hb => r_indexAddr ((S.grow hb).rdRow (D := fGClaim) (i := 3) rfl) rfl rfl ?_ ?_) ?_; (first | omega | (simp <;> omega)); (first | omega | (simp <;> omega))) | (refine q_val rfl (fun w' hb => r_indexAddr ((S.grow hb).rdRow (D := fInt .i64) (i := 1) rfl) rfl rfl ?_ ?_) ?_; (first | omega | (simp <;> omega)); (first | omega | (simp <;> omega)))) | (refine gq_load ?_; first | (refine q_val rfl (fun w' hb => r_loadElem1 ((S.grow hb).rdRow (D := fGAppearance) (i := 2) rfl) rfl ?_ ?_ rfl) ?_; (first | omega | (simp <;> omega)); (first | omega | (simp <;> omega))) | (refine q_val rfl (fun w' hb => r_loadElemF ((S.grow hb).rdRow (D := fGAppearance) (i := 2) rfl) rfl ?_ ?_ rfl) ?_; (first | omega | (simp <;> omega)); (first | omega | (simp <;> omega))) | (refine q_val rfl (fun w' hb => r_loadElem1 ((S.grow hb).rdRow (D := fGClaim) (i := 3) rfl) rfl ?_ ?_ rfl) ?_; (first | omega | (simp <;> omega)); (first | omega | (simp <;> omega))) | (refine q_val rfl (fun w' hb => r_loadElemF ((S.grow hb).rdRow (D := fGClaim) (i := 3) rfl) rfl ?_ ?_ rfl) ?_; (first | omega | (simp <;> omega)); (first | omega | (simp <;> omega))) | (refine q_val rfl (fun w' hb => r_loadElem1 ((S.grow hb).rdRow (D := fInt .i64) (i := 1) rfl) rfl ?_ ?_ rfl) ?_; (first | omega | (simp <;> omega)); (first | omega | (simp <;> omega))) | refine q_val rfl (fun w' hb => r_loadVar (i := 0) (S.grow hb) rfl rfl rfl) ?_) | (refine g_alloc ?_; refine st_valE rfl (r_alloc S) ?_; rintro _ w ⟨b, rfl, -, S'⟩; replace S := S'.front; clear S') | (refine g_store ?_; (refine st_skipE rfl (r_storeVar (i := 0) S rfl rfl rfl rfl (of_decide_eq_true rfl) (of_decide_eq_true rfl)) ?_; intro w S'; replace S := S'; clear S')) | (refine wl_split rfl rfl (fun h => ?_) (fun h => ?_) <;> (fail_if_success (have hh : true = true := h)) <;> (fail_if_success (have hh : false = false := h)) <;> (try simp only [decide_eq_true_eq, decide_eq_false_iff_not, Bool.not_eq_true', Bool.not_eq_false', Int.not_lt, Int.not_le] at h) <;> (try (exfalso; omega))) | (refine ql_split rfl rfl (fun h => ?_) (fun h => ?_) <;> (fail_if_success (have hh : true = true := h)) <;> (fail_if_success (have hh : false = false := h)) <;> (try simp only [decide_eq_true_eq, decide_eq_false_iff_not, Bool.not_eq_true', Bool.not_eq_false', Int.not_lt, Int.not_le] at h) <;> (try (exfalso; omega))) | (refine WP_cond rfl (fun h => ?_) (fun h => ?_) <;> (fail_if_success (have hh : true = true := h)) <;> (fail_if_success (have hh : false = false := h)) <;> (try simp only [decide_eq_true_eq, decide_eq_false_iff_not, Bool.not_eq_true', Bool.not_eq_false', Int.not_lt, Int.not_le] at h) <;> (try (exfalso; omega))))
      all_goals
        refine g_store ?_
        refine st_skipE rfl (r_storeElem (i := 1) (D := fInt .i64) (x := nth fs (nth q (i : Int)).Candidate + (nth q (i : Int)).Rest) (j := (nth q (i : Int)).Candidate) S rfl rfl rfl rfl (fun u hu => by cases List.mem_singleton.1 hu; rfl) hxm.1.1 (by omega)) ?_
        intro w S'
        rw [hnt, ← hsn] at S'
        replace S := S'.keep [false, true, true, true, true]
        clear S'
        repeat' (first | refine WP_region ?_ | refine wl_nil ?_ | refine then_normal ?_ | refine inB_normal ?_ | (refine g_move ?_; refine st_move rfl ?_) | (refine g_assign ?_; refine st_assign rfl ?_) | (refine g_b_add ?_; (refine st_val rfl (r_addN rfl rfl ?_ ?_) ?_; (first | omega | (simp <;> omega)); (first | omega | (simp <;> omega)))))
        refine ⟨⟨_, ?_, i + 1, ⟨rfl, rfl, rfl, rfl, rfl, rfl, rfl, trivial⟩, S, by omega, rfl⟩⟩
        omega
    · obtain ⟨hokb, hbv⟩ := hbj (by omega)
      rw [← f1] at hokb hbv
      have heb := err_of hokb
      have hlb := owe_len hokb
      have ej : (nth q (i : Int)).Of.toNat = j := by omega
      have hla : leftA k l s (nth q (i : Int)).Of = worthA (nth l (nth q (i : Int)).Of) - min (worthA (nth l (nth q (i : Int)).Of)) (nth (oweI k l ((nth l (nth q (i : Int)).Of).At - 1)) (nth l (nth q (i : Int)).Of).Candidate) := by
        unfold leftA; rw [ej, hbv]; omega
      have hb0 : 0 ≤ nth (oweI k l ((nth l (nth q (i : Int)).Of).At - 1)) (nth l (nth q (i : Int)).Of).Candidate := by
        have := (levels_plain hokb (nth l (nth q (i : Int)).Of).Candidate.toNat (by omega)).2.2.1
        rwa [Int.toNat_of_nonneg e1.1] at this
      rw [hla] at hrx hz
      repeat' (first | refine WP_seq ?_ | refine WP_region ?_ | refine wl_nil ?_ | refine then_normal ?_ | refine WP_skip ?_ | refine WP_block ?_ | refine WP_condF rfl ?_ | refine WP_draw (by kernel_rfl) (by kernel_rfl) ?_ | (refine ql_nil ?_; intro w hb; replace S := S.grow hb; clear hb) | (refine g_move ?_; refine st_move rfl ?_) | (refine g_pick ?_; refine st_pickF rfl rfl ?_) | (refine g_b_sub ?_; (refine st_val rfl (r_subN rfl rfl ?_ ?_) ?_; (first | omega | (simp <;> omega)); (first | omega | (simp <;> omega)))) | (refine g_b_lss ?_; refine st_val rfl (r_lss rfl rfl) ?_) | (refine g_b_gtr ?_; refine st_val rfl (r_gtr rfl rfl) ?_) | (refine g_b_geq ?_; refine st_val rfl (r_geq rfl rfl) ?_) | (refine g_c_len ?_; refine st_val rfl (r_lenSlice rfl) ?_) | (refine g_fieldAddr ?_; first | refine st_val rfl (r_fieldAddrL rfl) ?_ | refine st_val rfl (r_fieldAddr rfl) ?_) | (refine g_indexAddr ?_; first | (refine st_val rfl (r_indexAddr (S.rdRow (D := fGAppearance) (i := 2) rfl) rfl rfl ?_ ?_) ?_; (first | omega | (simp <;> omega)); (first | omega | (simp <;> omega))) | (refine st_val rfl (r_indexAddr (S.rdRow (D := fGClaim) (i := 2) rfl) rfl rfl ?_ ?_) ?_; (first | omega | (simp <;> omega)); (first | omega | (simp <;> omega)))) | (refine g_load ?_; first | (refine st_val rfl (r_loadElemF (S.rdRow (D := fGAppearance) (i := 2) rfl) rfl ?_ ?_ rfl) ?_; (first | omega | (simp <;> omega)); (first | omega | (simp <;> omega))) | (refine st_val rfl (r_loadElem (S.rdRow (D := fGClaim) (i := 2) rfl) rfl ?_ ?_) ?_; (first | omega | (simp <;> omega)); (first | omega | (simp <;> omega))) | refine st_val rfl (r_loadVar (i := 0) S rfl rfl rfl) ?_) | (refine gq_guard ?_; refine q_off rfl ?_) | (refine gq_move ?_; refine q_move rfl ?_) | (refine gq_assign ?_; refine q_assign rfl ?_) | (refine gq_pick ?_; first | refine q_pickT rfl rfl ?_ | refine q_pickF rfl rfl ?_) | (refine gq_b_add ?_; (refine q_val rfl (fun w' hb => r_addN rfl rfl ?_ ?_) ?_; (first | omega | (simp <;> omega)); (first | omega | (simp <;> omega)))) | (refine gq_b_sub ?_; (refine q_val rfl (fun w' hb => r_subN rfl rfl ?_ ?_) ?_; (first | omega | (simp <;> omega)); (first | omega | (simp <;> omega)))) | (refine gq_b_mul ?_; (refine q_val rfl (fun w' hb => r_mulN rfl rfl ?_ ?_) ?_; (first | omega | (simp <;> omega)); (first | omega | (simp <;> omega)))) | (refine gq_b_eql ?_; refine q_val rfl (fun w' hb => r_eql rfl rfl) ?_) | (refine gq_b_neq ?_; refine q_val rfl (fun w' hb => r_neq rfl rfl) ?_) | (refine gq_b_lss ?_; refine q_val rfl (fun w' hb => r_lss rfl rfl) ?_) | (refine gq_b_leq ?_; refine q_val rfl (fun w' hb => r_leq rfl rfl) ?_) | (refine gq_b_gtr ?_; refine q_val rfl (fun w' hb => r_gtr rfl rfl) ?_) | (refine gq_fieldAddr ?_; first | refine q_val rfl (fun w' hb => r_fieldAddrL rfl) ?_ | refine q_val rfl (fun w' hb => r_fieldAddr rfl) ?_) | (refine gq_indexAddr ?_; first | (refine q_val rfl (fun w' hb => r_indexAddr ((S.grow hb).rdRow (D := fGAppearance) (i := 2) rfl) rfl rfl ?_ ?_) ?_; (first | omega | (simp <;> omega)); (first | omega | (simp <;> omega))) | (refine q_val rfl (fun w' hb => r_indexAddr ((S.grow hb).rdRow (D := fGClaim) (i := 3) rfl) rfl rfl ?_ ?_) ?_; (first | omega | (simp <;> omega)); (first | omega | (simp <;> omega)))) | (refine gq_load ?_; first | (refine q_val rfl (fun w' hb => r_loadElem1 ((S.grow hb).rdRow (D := fGAppearance) (i := 2) rfl) rfl ?_ ?_ rfl) ?_; (first | omega | (simp <;> omega)); (first | omega | (simp <;> omega))) | (refine q_val rfl (fun w' hb => r_loadElemF ((S.grow hb).rdRow (D := fGAppearance) (i := 2) rfl) rfl ?_ ?_ rfl) ?_; (first | omega | (simp <;> omega)); (first | omega | (simp <;> omega))) | (refine q_val rfl (fun w' hb => r_loadElem1 ((S.grow hb).rdRow (D := fGClaim) (i := 3) rfl) rfl ?_ ?_ rfl) ?_; (first | omega | (simp <;> omega)); (first | omega | (simp <;> omega))) | (refine q_val rfl (fun w' hb => r_loadElemF ((S.grow hb).rdRow (D := fGClaim) (i := 3) rfl) rfl ?_ ?_ rfl) ?_; (first | omega | (simp <;> omega)); (first | omega | (simp <;> omega))) | refine q_val rfl (fun w' hb => r_loadVar (i := 0) (S.grow hb) rfl rfl rfl) ?_) | (refine g_alloc ?_; refine st_valE rfl (r_alloc S) ?_; rintro _ w ⟨b, rfl, -, S'⟩; replace S := S'.front; clear S') | (refine g_store ?_; (refine st_skipE rfl (r_storeVar (i := 0) S rfl rfl rfl rfl (of_decide_eq_true rfl) (of_decide_eq_true rfl)) ?_; intro w S'; replace S := S'; clear S')) | (refine wl_split rfl rfl (fun h => ?_) (fun h => ?_) <;> (fail_if_success (have hh : true = true := h)) <;> (fail_if_success (have hh : false = false := h)) <;> (try simp only [decide_eq_true_eq, decide_eq_false_iff_not, Bool.not_eq_true', Bool.not_eq_false', Int.not_lt, Int.not_le] at h) <;> (try (exfalso; omega))) | (refine ql_split rfl rfl (fun h => ?_) (fun h => ?_) <;> (fail_if_success (have hh : true = true := h)) <;> (fail_if_success (have hh : false = false := h)) <;> (try simp only [decide_eq_true_eq, decide_eq_false_iff_not, Bool.not_eq_true', Bool.not_eq_false', Int.not_lt, Int.not_le] at h) <;> (try (exfalso; omega))) | (refine WP_cond rfl (fun h => ?_) (fun h => ?_) <;> (fail_if_success (have hh : true = true := h)) <;> (fail_if_success (have hh : false = false := h)) <;> (try simp only [decide_eq_true_eq, decide_eq_false_iff_not, Bool.not_eq_true', Bool.not_eq_false', Int.not_lt, Int.not_le] at h) <;> (try (exfalso; omega))))
      all_goals
        refine st_callR rfl (r_call3 rfl rfl rfl rfl) (owed_is (by omega) (S.rdRow (D := fGAppearance) (i := 2) rfl) (by omega) rfl heb) ?_
        rintro _ w hb ⟨vb, rfl, hrow⟩
        replace S := S.new hb hrow
        clear hb hrow
        generalize oweI k l ((nth l (nth q (i : Int)).Of).At - 1) = bb at *
        obtain ⟨Ab, cb, hvb⟩ := (S.rdRow (D := fInt .i64) (i := 5) rfl).len
        subst hvb
        repeat' (first | refine WP_seq ?_ | refine WP_region ?_ | refine wl_nil ?_ | refine then_normal ?_ | refine WP_skip ?_ | refine WP_condF rfl ?_ | refine WP_drawTail 12 (by kernel_rfl) (by decide +kernel) ?_ | (refine ql_nil ?_; intro w hb; replace S := S.grow hb; clear hb) | (refine g_guard ?_; refine st_off rfl ?_) | (refine g_move ?_; refine st_move rfl ?_) | (refine g_assign ?_; refine st_assign rfl ?_) | (refine g_pick ?_; first | refine st_pickT rfl rfl ?_ | refine st_pickF rfl rfl ?_) | (refine g_b_sub ?_; (refine st_val rfl (r_subN rfl rfl ?_ ?_) ?_; (first | omega | (simp <;> omega)); (first | omega | (simp <;> omega)))) | (refine g_b_neq ?_; refine st_val rfl (r_neq rfl rfl) ?_) | (refine g_b_lss ?_; refine st_val rfl (r_lss rfl rfl) ?_) | (refine g_b_gtr ?_; refine st_val rfl (r_gtr rfl rfl) ?_) | (refine g_extract ?_; refine st_val rfl (r_extract rfl rfl) ?_) | (refine g_c_min ?_; refine st_val rfl (r_min2 rfl rfl) ?_) | (refine g_c_len ?_; refine st_val rfl (r_lenSlice rfl) ?_) | (refine g_fieldAddr ?_; first | refine st_val rfl (r_fieldAddrL rfl) ?_ | refine st_val rfl (r_fieldAddr rfl) ?_) | (refine g_indexAddr ?_; first | (refine st_val rfl (r_indexAddr (S.rdRow (D := fGAppearance) (i := 2) rfl) rfl rfl ?_ ?_) ?_; (first | omega | (simp <;> omega)); (first | omega | (simp <;> omega))) | (refine st_val rfl (r_indexAddr (S.rdRow (D := fInt .i64) (i := 1) rfl) rfl rfl ?_ ?_) ?_; (first | omega | (simp <;> omega)); (first | omega | (simp <;> omega))) | (refine st_val rfl (r_indexAddr (S.rdRow (D := fInt .i64) (i := 5) rfl) rfl rfl ?_ ?_) ?_; (first | omega | (simp <;> omega)); (first | omega | (simp <;> omega)))) | (refine g_load ?_; first | (refine st_val rfl (r_loadElem1 (S.rdRow (D := fGAppearance) (i := 2) rfl) rfl ?_ ?_ rfl) ?_; (first | omega | (simp <;> omega)); (first | omega | (simp <;> omega))) | (refine st_val rfl (r_loadElem1 (S.rdRow (D := fInt .i64) (i := 1) rfl) rfl ?_ ?_ rfl) ?_; (first | omega | (simp <;> omega)); (first | omega | (simp <;> omega))) | (refine st_val rfl (r_loadElem1 (S.rdRow (D := fInt .i64) (i := 5) rfl) rfl ?_ ?_ rfl) ?_; (first | omega | (simp <;> omega)); (first | omega | (simp <;> omega))) | refine st_val rfl (r_loadVar (i := 0) S rfl rfl rfl) ?_) | (refine gq_move ?_; refine q_move rfl ?_) | (refine gq_b_add ?_; (refine q_val rfl (fun w' hb => r_addN rfl rfl ?_ ?_) ?_; (first | omega | (simp <;> omega)); (first | omega | (simp <;> omega)))) | (refine gq_fieldAddr ?_; refine q_val rfl (fun w' hb => r_fieldAddrL rfl) ?_) | (refine gq_indexAddr ?_; (refine q_val rfl (fun w' hb => r_indexAddr ((S.grow hb).rdRow (D := fInt .i64) (i := 1) rfl) rfl rfl ?_ ?_) ?_; (first | omega | (simp <;> omega)); (first | omega | (simp <;> omega)))) | (refine gq_load ?_; first | (refine q_val rfl (fun w' hb => r_loadElem1 ((S.grow hb).rdRow (D := fInt .i64) (i := 1) rfl) rfl ?_ ?_ rfl) ?_; (first | omega | (simp <;> omega)); (first | omega | (simp <;> omega))) | refine q_val rfl (fun w' hb => r_loadVar (i := 0) (S.grow hb) rfl rfl rfl) ?_) | (refine wl_split rfl rfl (fun h => ?_) (fun h => ?_) <;> (fail_if_success (have hh : true = true := h)) <;> (fail_if_success (have hh : false = false := h)) <;> (try simp only [decide_eq_true_eq, decide_eq_false_iff_not, Bool.not_eq_true', Bool.not_eq_false', Int.not_lt, Int.not_le] at h) <;> (try (exfalso; omega))) | (refine WP_cond rfl (fun h => ?_) (fun h => ?_) <;> (fail_if_success (have hh : true = true := h)) <;> (fail_if_success (have hh : false = false := h)) <;> (try simp only [decide_eq_true_eq, decide_eq_false_iff_not, Bool.not_eq_true', Bool.not_eq_false', Int.not_lt, Int.not_le] at h) <;> (try (exfalso; omega))))
        all_goals
          refine g_store ?_
          refine st_skipE rfl (r_storeElem (i := 1) (D := fInt .i64) (x := nth fs (nth q (i : Int)).Candidate + (nth q (i : Int)).Rest) (j := (nth q (i : Int)).Candidate) S rfl rfl rfl rfl (fun u hu => by cases List.mem_singleton.1 hu; rfl) hxm.1.1 (by omega)) ?_
          intro w S'
          rw [hnt, ← hsn] at S'
          replace S := S'.keep [false, true, true, true, true, false]
          clear S'
          repeat' (first | refine WP_region ?_ | refine wl_nil ?_ | refine then_normal ?_ | refine inB_normal ?_ | (refine g_move ?_; refine st_move rfl ?_) | (refine g_assign ?_; refine st_assign rfl ?_) | (refine g_b_add ?_; (refine st_val rfl (r_addN rfl rfl ?_ ?_) ?_; (first | omega | (simp <;> omega)); (first | omega | (simp <;> omega)))))
          refine ⟨⟨_, ?_, i + 1, ⟨rfl, rfl, rfl, rfl, rfl, rfl, rfl, trivial⟩, S, by omega, rfl⟩⟩
          omega
  · have ei : i = q.length := by omega
    subst ei
    rw [List.take_length, ← hoe] at S
    repeat' (first | refine WP_seq ?_ | refine WP_region ?_ | refine wl_nil ?_ | refine then_normal ?_ | refine then_exit ?_ | refine inB_here ?_ | refine WP_ret ?_ | refine WP_exit ?_ | (refine g_move ?_; refine st_move rfl ?_) | (refine g_assign ?_; refine st_assign rfl ?_) | (refine g_b_lss ?_; refine st_val rfl (r_lss rfl rfl) ?_) | (refine g_c_len ?_; refine st_val rfl (r_lenSlice rfl) ?_) | (refine g_callV ?_; (refine st_callV rfl (r_call2 rfl rfl rfl) (ints_is (S.rdRow (D := fInt .i64) (i := 0) rfl) (S.rdRow (D := fInt .i64) (i := 3) rfl) (by omega) (by omega) (decide_eq_true rfl)) ?_; intro w hb; replace S := S.grow hb; clear hb)) | (refine WP_cond rfl (fun h => ?_) (fun h => ?_) <;> (fail_if_success (have hh : true = true := h)) <;> (fail_if_success (have hh : false = false := h)) <;> (try simp only [decide_eq_true_eq, decide_eq_false_iff_not, Bool.not_eq_true', Bool.not_eq_false', Int.not_lt, Int.not_le] at h) <;> (try (exfalso; omega))))
    exact end1 rfl rfl ⟨rfl, S.below⟩
end Go.Proofs.Ytcbidfedffegpaa
