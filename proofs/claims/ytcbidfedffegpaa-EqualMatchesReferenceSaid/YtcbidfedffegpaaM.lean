import Derived.Test.YtcbidfedffegpaaL
namespace Go.Proofs.Ytcbidfedffegpaa
open Go Go.Gx Go.RowKit
set_option linter.unusedVariables false
set_option linter.unusedSimpArgs false
def eatC (w : Int) (x : GClaim) : GClaim := { x with Rest := x.Rest - min w x.Rest }
/-- One claim more in a pass. -/
def passR (k : Int) (r : Int × List GClaim) (x : GClaim) : Int × List GClaim :=
  if x.Candidate = k then (r.1 - min r.1 x.Rest, r.2 ++ if 0 < x.Rest - min r.1 x.Rest then [eatC r.1 x] else []) else (r.1, r.2 ++ if 0 < x.Rest then [x] else [])
theorem passC_snoc {k : Int} {x : GClaim} : ∀ (q : List GClaim) (w : Int), passC k w (q ++ [x]) = passR k (passC k w q) x
  | [], w => by
    show passC k w [x] = passR k (w, []) x
    unfold passR
    simp only [passC, List.nil_append]
    (repeat' split) <;> rfl
  | y :: q, w => by
    have ih := fun w => passC_snoc (k := k) (x := x) q w
    show passC k w (y :: (q ++ [x])) = passR k (passC k w (y :: q)) x
    have hc : ∀ (r : Int × List GClaim) (z : GClaim), passR k (r.1, z :: r.2) x = ((passR k r x).1, z :: (passR k r x).2) := fun r z => by
      unfold passR; split <;> rfl
    simp only [passC, ih]
    (repeat' split) <;> simp_all
theorem passC_take {k w : Int} {q : List GClaim} {m : Nat} {x : GClaim} (h : q[m]? = some x) : passC k w (q.take (m + 1)) = passR k (passC k w (q.take m)) x := by
  rw [List.take_add_one, h]; exact passC_snoc _ _
def newP (i : Int) (a : GAppearance) (w : Int) (c : Nat) : List GClaim := ((List.range c).filter fun (c : Nat) => decide ((c : Int) ≠ a.Candidate)).map fun (c : Nat) => ⟨(c : Int), i, w, a.At + 604800⟩
theorem newP_succ {i : Int} {a : GAppearance} {w : Int} {c : Nat} : newP i a w (c + 1) = newP i a w c ++ if (c : Int) ≠ a.Candidate then [⟨(c : Int), i, w, a.At + 604800⟩] else [] := by
  unfold newP
  rw [List.range_succ, List.filter_append, List.map_append]
  by_cases h : (c : Int) = a.Candidate <;> simp [h]
theorem newP_len {i : Int} {a : GAppearance} {w : Int} (c : Nat) : (newP i a w c).length ≤ c := by
  unfold newP; rw [List.length_map]
  exact Nat.le_trans (List.length_filter_le _ _) (by simp)
theorem passC_len {k : Int} : ∀ (q : List GClaim) (w : Int), (passC k w q).2.length ≤ q.length
  | [], w => Nat.le_refl _
  | x :: q, w => by
    have ih := fun w => passC_len (k := k) q w
    unfold passC
    (repeat' split) <;> simp only [List.length_cons] <;> first | (have := ih w; omega) | (have := ih (w - min w x.Rest); omega)
theorem openC_lenm {n : Int} {l : List GAppearance} {now : Int} (hn : n ≤ 8) : ∀ m : Nat, (openC n l now m).length ≤ 8 * m
  | 0 => by simp [openC]
  | m + 1 => by
    have ih := openC_lenm (l := l) (now := now) hn m
    unfold openC
    split
    · unfold stepC
      rw [List.length_append]
      have h1 := passC_len (k := (nth l (m : Int)).Candidate) (openC n l now m) (worthA (nth l (m : Int)))
      have h2 : (newC n m (nth l (m : Int)) (passC (nth l (m : Int)).Candidate (worthA (nth l (m : Int))) (openC n l now m)).1).length ≤ 8 := by
        unfold newC; split
        · exact Nat.le_trans (newP_len (i := (m : Int)) (a := nth l (m : Int)) (w := (passC (nth l (m : Int)).Candidate (worthA (nth l (m : Int))) (openC n l now m)).1) n.toNat) (by omega)
        · simp
      omega
    · omega
set_option maxHeartbeats 4000000 in
theorem claimsR_run {n now : Int} {v : Value} {l : List GAppearance} {w0 : World} (hn : -9223372036854775808 ≤ n ∧ n ≤ 9223372036854775807) (hr : Rd fGAppearance.ty w0 v l) (hl : l.length ≤ 1000000000) :
    CallsR Try.prog 17 #[.int .i64 n, v, .int .i64 now] w0 (clmG n l now w0) := by
  have S := St.start w0
  obtain ⟨A, c, rfl⟩ := hr.len
  refine CallsR.mk ?_
  refine calls_enter Try.func17 rfl (by intro _ h; first | exact nomatch h.1 | (obtain ⟨_, h, _⟩ := h; exact nomatch h)) Try.ntmps17 rfl ?_
  repeat' (first | refine WP_seq ?_ | refine WP_region ?_ | refine wl_nil ?_ | refine then_normal ?_ | refine then_ret ?_ | refine WP_ret ?_ | refine WP_skip ?_ | refine WP_block ?_ | refine WP_condT rfl ?_ | (refine g_guard ?_; refine st_off rfl ?_) | (refine g_move ?_; refine st_move rfl ?_) | (refine g_assign ?_; refine st_assign rfl ?_) | (refine g_pick ?_; first | refine st_pickT rfl rfl ?_ | refine st_pickF rfl rfl ?_) | (refine g_un ?_; refine st_val rfl (r_not rfl) ?_) | (refine g_callV ?_; first | (refine st_callV rfl (r_call2 rfl rfl rfl) (validR_spec hn (hr.mono S.below) hl) ?_; intro w hb; replace S := S.grow hb; clear hb) | (refine st_callV rfl (r_call3 rfl rfl rfl rfl) (in_spec) ?_; intro w hb; replace S := S.grow hb; clear hb)) | (refine wl_split rfl rfl (fun h => ?_) (fun h => ?_) <;> (fail_if_success (have hh : true = true := h)) <;> (fail_if_success (have hh : false = false := h)) <;> (try simp only [decide_eq_true_eq, decide_eq_false_iff_not, Bool.not_eq_true', Bool.not_eq_false', Int.not_lt, Int.not_le] at h) <;> (try (exfalso; omega))) | (refine WP_cond rfl (fun h => ?_) (fun h => ?_) <;> (fail_if_success (have hh : true = true := h)) <;> (fail_if_success (have hh : false = false := h)) <;> (try simp only [decide_eq_true_eq, decide_eq_false_iff_not, Bool.not_eq_true', Bool.not_eq_false', Int.not_lt, Int.not_le] at h) <;> (try (exfalso; omega))))
  · have hok : okA n l now = false := by unfold okA; simp_all
    have he : errI n l now = 130 := by unfold errI; rw [if_neg (by simp [hok])]
    have hcl : claimsI n l now = [] := by unfold claimsI; rw [if_neg (by simp [hok])]
    refine end2 rfl rfl rfl ⟨_, rfl, S.below, .slice none 0 0, ?_, ?_⟩
    · rw [he]; rfl
    · rw [hcl]; exact NewRow.nil fGClaim 39 _ _
  · have hok : okA n l now = false := by unfold okA; simp_all
    have he : errI n l now = 130 := by unfold errI; rw [if_neg (by simp [hok])]
    have hcl : claimsI n l now = [] := by unfold claimsI; rw [if_neg (by simp [hok])]
    refine end2 rfl rfl rfl ⟨_, rfl, S.below, .slice none 0 0, ?_, ?_⟩
    · rw [he]; rfl
    · rw [hcl]; exact NewRow.nil fGClaim 39 _ _
  have hok : okA n l now = true := by unfold okA; simp_all
  have hvd : validA n l = true := by simp_all
  have he : errI n l now = 0 := by unfold errI; rw [if_pos hok]
  have hcl : claimsI n l now = openC n l now l.length := by unfold claimsI; rw [if_pos hok]
  have hva := valid_at hvd
  replace S := S.nilRow fGClaim 39
  refine WP_loop (fun k σ w1 => ∃ (i : Nat) (v : Value), Has σ [(0, .int .i64 n), (1, .slice A l.length c), (2, .int .i64 now), (8, v), (9, .int .i64 (i : Int))] ∧ St w0 w1 [rowOb fGClaim 39 v (openC n l now i)] ∧ i ≤ l.length ∧ k = l.length - i) l.length ⟨0, _, ⟨rfl, rfl, rfl, rfl, rfl, trivial⟩, S, by omega, by omega⟩ ?_
  clear S
  rintro k σ w1 ⟨i, v, hs', S, hi1, rfl⟩
  refine WP_has hs' ?_
  by_cases hi : i < l.length
  · obtain ⟨e1, e2, e3, e4, e5⟩ := valid_el hvd hi
    by_cases hat : (nth l (i : Int)).At ≤ now
    · have hwb := worth_bound e3 e4
      have hwm : (nth l (i : Int)).Seconds * (nth l (i : Int)).Weight = worthA (nth l (i : Int)) := rfl
      repeat' (first | refine WP_seq ?_ | refine WP_region ?_ | refine wl_nil ?_ | refine then_normal ?_ | refine WP_skip ?_ | refine WP_block ?_ | (refine g_move ?_; refine st_move rfl ?_) | (refine g_assign ?_; refine st_assign rfl ?_) | (refine g_b_mul ?_; (refine st_val rfl (r_mulN rfl rfl ?_ ?_) ?_; (first | omega | (simp <;> omega)); (first | omega | (simp <;> omega)))) | (refine g_b_lss ?_; refine st_val rfl (r_lss rfl rfl) ?_) | (refine g_b_gtr ?_; refine st_val rfl (r_gtr rfl rfl) ?_) | (refine g_c_len ?_; refine st_val rfl (r_lenSlice rfl) ?_) | (refine g_fieldAddr ?_; refine st_val rfl (r_fieldAddrL rfl) ?_) | (refine g_indexAddr ?_; (refine st_val rfl (r_indexAddr (hr.mono S.below) rfl rfl ?_ ?_) ?_; (first | omega | (simp <;> omega)); (first | omega | (simp <;> omega)))) | (refine g_load ?_; first | (refine st_val rfl (r_loadElem (hr.mono S.below) rfl ?_ ?_) ?_; (first | omega | (simp <;> omega)); (first | omega | (simp <;> omega))) | refine st_val rfl (r_loadVar (i := 0) S rfl rfl rfl) ?_) | (refine g_alloc ?_; refine st_valE rfl (r_alloc S) ?_; rintro _ w ⟨b, rfl, -, S'⟩; replace S := S'.front; clear S') | (refine g_store ?_; (refine st_skipE rfl (r_storeVar (i := 0) S rfl rfl rfl rfl (of_decide_eq_true rfl) (of_decide_eq_true rfl)) ?_; intro w S'; replace S := S'; clear S')) | (refine WP_cond rfl (fun h => ?_) (fun h => ?_) <;> (fail_if_success (have hh : true = true := h)) <;> (fail_if_success (have hh : false = false := h)) <;> (try simp only [decide_eq_true_eq, decide_eq_false_iff_not, Bool.not_eq_true', Bool.not_eq_false', Int.not_lt, Int.not_le] at h) <;> (try (exfalso; omega))))
      replace S : St w0 _ (rowOb fGClaim 39 (.slice none 0 0) [] :: .var b 49 (nth l (i : Int)).enc :: [rowOb fGClaim 39 v (openC n l now i)]) := (St.nilRow fGClaim 39 S).front
      rw [hwm]
      have hoc := openC_ok (now := now) hvd i (by omega)
      have hol := openC_lenm (l := l) (now := now) hva.2.1 i
      have est : openC n l now (i + 1) = stepC n i (nth l (i : Int)) (openC n l now i) := by rw [openC, if_pos hat]
      unfold stepC at est
      generalize openC n l now i = q at S hoc hol est
      generalize nth l (i : Int) = a at S e1 e2 e3 e4 hwb est hat ⊢
      generalize worthA a = wo at hwb est ⊢
      obtain ⟨Aq, cq, hv⟩ := (S.rdRow (D := fGClaim) (i := 2) rfl).len
      subst hv
      clear hs'
      refine WP_loop (fun k σ w1 => ∃ (m : Nat) (wm : Int) (acc : List GClaim) (vr : Value), Has σ [(0, .int .i64 n), (1, .slice A l.length c), (2, .int .i64 now), (8, .slice Aq q.length cq), (9, .int .i64 (i : Int)), (10, .pointer (some ⟨b, 0, none⟩)), (11, .int .i64 wm), (12, vr), (13, .int .i64 (m : Int))] ∧ St w0 w1 [rowOb fGClaim 39 vr acc, .var b 49 a.enc, rowOb fGClaim 39 (.slice Aq q.length cq) q] ∧ passC a.Candidate wo (q.take m) = (wm, acc) ∧ m ≤ q.length ∧ k = q.length - m) q.length ⟨0, wo, [], _, ⟨rfl, rfl, rfl, rfl, rfl, rfl, rfl, rfl, rfl, trivial⟩, S, rfl, by omega, by omega⟩ ?_
      clear S
      rintro k σ w2 ⟨m, wm, acc, vr, hs2, S, hps, hm1, rfl⟩
      refine WP_has hs2 ?_
      have hpm := passC_mem (k := a.Candidate) (q.take m) wo (by omega) (fun c hc => hoc.rest c (List.mem_of_mem_take hc))
      rw [hps] at hpm
      have hpl := passC_len (k := a.Candidate) (q.take m) wo
      rw [hps, List.length_take] at hpl
      have hpl2 : acc.length ≤ m := by have : (wm, acc).2.length = acc.length := rfl; omega
      have hwm0 : 0 ≤ wm ∧ wm ≤ wo := hpm.2
      by_cases hm : m < q.length
      · have hx := nth_get (l := q) (i := (m : Int)) (by omega) (by omega)
        rw [Int.toNat_natCast] at hx
        have hpt := passC_take (k := a.Candidate) (w := wo) hx
        rw [hps] at hpt
        unfold passR at hpt
        have hxr := (hoc.mem _ (List.mem_of_getElem? hx))
        by_cases hk : (nth q (m : Int)).Candidate = a.Candidate
        · rw [if_pos hk] at hpt
          by_cases hz : 0 < (nth q (m : Int)).Rest - min wm (nth q (m : Int)).Rest
          · rw [if_pos hz] at hpt
            repeat' (first | refine WP_seq ?_ | refine WP_region ?_ | refine wl_nil ?_ | refine then_normal ?_ | refine WP_skip ?_ | refine WP_block ?_ | (refine g_move ?_; refine st_move rfl ?_) | (refine g_assign ?_; refine st_assign rfl ?_) | (refine g_b_sub ?_; (refine st_val rfl (r_subN rfl rfl ?_ ?_) ?_; (first | omega | (simp <;> omega)); (first | omega | (simp <;> omega)))) | (refine g_b_eql ?_; refine st_val rfl (r_eql rfl rfl) ?_) | (refine g_b_lss ?_; refine st_val rfl (r_lss rfl rfl) ?_) | (refine g_b_gtr ?_; refine st_val rfl (r_gtr rfl rfl) ?_) | (refine g_c_min ?_; refine st_val rfl (r_min2 rfl rfl) ?_) | (refine g_c_len ?_; refine st_val rfl (r_lenSlice rfl) ?_) | (refine g_fieldAddr ?_; refine st_val rfl (r_fieldAddrL rfl) ?_) | (refine g_indexAddr ?_; (refine st_val rfl (r_indexAddr (S.rdRow (D := fGClaim) (i := 2) rfl) rfl rfl ?_ ?_) ?_; (first | omega | (simp <;> omega)); (first | omega | (simp <;> omega)))) | (refine g_load ?_; first | (refine st_val rfl (r_loadElem (S.rdRow (D := fGClaim) (i := 2) rfl) rfl ?_ ?_) ?_; (first | omega | (simp <;> omega)); (first | omega | (simp <;> omega))) | refine st_val rfl (r_loadVar (i := 0) S rfl rfl rfl) ?_ | refine st_val rfl (r_loadVarA (i := 0) S rfl rfl rfl rfl) ?_ | refine st_val rfl (r_loadVar (i := 2) S rfl rfl rfl) ?_) | (refine g_alloc ?_; refine st_valE rfl (r_alloc S) ?_; rintro _ w ⟨b, rfl, -, S'⟩; replace S := S'.front; clear S') | (refine g_store ?_; first | (refine st_skipE rfl (r_storeVar (i := 0) S rfl rfl rfl rfl (of_decide_eq_true rfl) (of_decide_eq_true rfl)) ?_; intro w S'; replace S := S'; clear S') | (refine st_skipE rfl (r_storeVar (i := 1) S rfl rfl rfl rfl (of_decide_eq_true rfl) (of_decide_eq_true rfl)) ?_; intro w S'; replace S := S'; clear S') | (refine st_skipE rfl (r_storeVar (i := 2) S rfl rfl rfl rfl (of_decide_eq_true rfl) (of_decide_eq_true rfl)) ?_; intro w S'; replace S := S'; clear S')) | (refine WP_cond rfl (fun h => ?_) (fun h => ?_) <;> (fail_if_success (have hh : true = true := h)) <;> (fail_if_success (have hh : false = false := h)) <;> (try simp only [decide_eq_true_eq, decide_eq_false_iff_not, Bool.not_eq_true', Bool.not_eq_false', Int.not_lt, Int.not_le] at h) <;> (try (exfalso; omega))))
            refine st_valE rfl (r_litF (D := fGClaim) [eatC wm (nth q (m : Int))] (fun x => .agg x.enc.toArray) S rfl rfl (fun _ => rfl) rfl (by decide) (by decide)) ?_
            rintro _ w ⟨bl, rfl, -, -, S'⟩
            replace S := S'.front
            clear S'
            refine st_valE rfl (r_appendRd (i := 2) (D := fGClaim) S rfl (S.rdRow (D := fGClaim) (i := 0) rfl) rfl rfl rfl (by decide) (by intro x u hu; simp [fGClaim, GClaim.enc] at hu; rcases hu with rfl | rfl | rfl | rfl <;> rfl) (by rw [List.length_singleton]; omega) (by rw [List.length_singleton]; omega)) ?_
            rintro v' w ⟨_, S'⟩
            replace S := S'.keep [false, false, true, true, true]
            clear S'
            repeat' (first | refine WP_region ?_ | refine wl_nil ?_ | refine then_normal ?_ | refine inB_normal ?_ | (refine g_move ?_; refine st_move rfl ?_) | (refine g_assign ?_; refine st_assign rfl ?_) | (refine g_b_add ?_; (refine st_val rfl (r_addN rfl rfl ?_ ?_) ?_; (first | omega | (simp <;> omega)); (first | omega | (simp <;> omega)))))
            refine ⟨⟨_, ?_, m + 1, wm - min wm (nth q (m : Int)).Rest, acc ++ [eatC wm (nth q (m : Int))], v', ⟨rfl, rfl, rfl, rfl, rfl, rfl, rfl, rfl, rfl, trivial⟩, S, hpt, by omega, rfl⟩⟩
            omega
          · rw [if_neg hz, List.append_nil] at hpt
            repeat' (first | refine WP_seq ?_ | refine WP_region ?_ | refine wl_nil ?_ | refine then_normal ?_ | refine inB_normal ?_ | refine WP_skip ?_ | refine WP_block ?_ | (refine g_move ?_; refine st_move rfl ?_) | (refine g_assign ?_; refine st_assign rfl ?_) | (refine g_b_add ?_; (refine st_val rfl (r_addN rfl rfl ?_ ?_) ?_; (first | omega | (simp <;> omega)); (first | omega | (simp <;> omega)))) | (refine g_b_sub ?_; (refine st_val rfl (r_subN rfl rfl ?_ ?_) ?_; (first | omega | (simp <;> omega)); (first | omega | (simp <;> omega)))) | (refine g_b_eql ?_; refine st_val rfl (r_eql rfl rfl) ?_) | (refine g_b_lss ?_; refine st_val rfl (r_lss rfl rfl) ?_) | (refine g_b_gtr ?_; refine st_val rfl (r_gtr rfl rfl) ?_) | (refine g_c_min ?_; refine st_val rfl (r_min2 rfl rfl) ?_) | (refine g_c_len ?_; refine st_val rfl (r_lenSlice rfl) ?_) | (refine g_fieldAddr ?_; refine st_val rfl (r_fieldAddrL rfl) ?_) | (refine g_indexAddr ?_; (refine st_val rfl (r_indexAddr (S.rdRow (D := fGClaim) (i := 2) rfl) rfl rfl ?_ ?_) ?_; (first | omega | (simp <;> omega)); (first | omega | (simp <;> omega)))) | (refine g_load ?_; first | (refine st_val rfl (r_loadElem (S.rdRow (D := fGClaim) (i := 2) rfl) rfl ?_ ?_) ?_; (first | omega | (simp <;> omega)); (first | omega | (simp <;> omega))) | refine st_val rfl (r_loadVar (i := 0) S rfl rfl rfl) ?_ | refine st_val rfl (r_loadVar (i := 2) S rfl rfl rfl) ?_) | (refine g_alloc ?_; refine st_valE rfl (r_alloc S) ?_; rintro _ w ⟨b, rfl, -, S'⟩; replace S := S'.front; clear S') | (refine g_store ?_; first | (refine st_skipE rfl (r_storeVar (i := 0) S rfl rfl rfl rfl (of_decide_eq_true rfl) (of_decide_eq_true rfl)) ?_; intro w S'; replace S := S'; clear S') | (refine st_skipE rfl (r_storeVar (i := 1) S rfl rfl rfl rfl (of_decide_eq_true rfl) (of_decide_eq_true rfl)) ?_; intro w S'; replace S := S'; clear S') | (refine st_skipE rfl (r_storeVar (i := 2) S rfl rfl rfl rfl (of_decide_eq_true rfl) (of_decide_eq_true rfl)) ?_; intro w S'; replace S := S'; clear S')) | (refine WP_cond rfl (fun h => ?_) (fun h => ?_) <;> (fail_if_success (have hh : true = true := h)) <;> (fail_if_success (have hh : false = false := h)) <;> (try simp only [decide_eq_true_eq, decide_eq_false_iff_not, Bool.not_eq_true', Bool.not_eq_false', Int.not_lt, Int.not_le] at h) <;> (try (exfalso; omega))))
            refine ⟨⟨_, ?_, m + 1, wm - min wm (nth q (m : Int)).Rest, acc, vr, ⟨rfl, rfl, rfl, rfl, rfl, rfl, rfl, rfl, rfl, trivial⟩, S.tail, hpt, by omega, rfl⟩⟩
            omega
        · rw [if_neg hk, if_pos (by omega)] at hpt
          · repeat' (first | refine WP_seq ?_ | refine WP_region ?_ | refine wl_nil ?_ | refine then_normal ?_ | refine WP_skip ?_ | refine WP_block ?_ | (refine g_move ?_; refine st_move rfl ?_) | (refine g_b_eql ?_; refine st_val rfl (r_eql rfl rfl) ?_) | (refine g_b_lss ?_; refine st_val rfl (r_lss rfl rfl) ?_) | (refine g_b_gtr ?_; refine st_val rfl (r_gtr rfl rfl) ?_) | (refine g_c_len ?_; refine st_val rfl (r_lenSlice rfl) ?_) | (refine g_fieldAddr ?_; refine st_val rfl (r_fieldAddrL rfl) ?_) | (refine g_indexAddr ?_; (refine st_val rfl (r_indexAddr (S.rdRow (D := fGClaim) (i := 2) rfl) rfl rfl ?_ ?_) ?_; (first | omega | (simp <;> omega)); (first | omega | (simp <;> omega)))) | (refine g_load ?_; first | (refine st_val rfl (r_loadElem (S.rdRow (D := fGClaim) (i := 2) rfl) rfl ?_ ?_) ?_; (first | omega | (simp <;> omega)); (first | omega | (simp <;> omega))) | refine st_val rfl (r_loadVar (i := 0) S rfl rfl rfl) ?_ | refine st_val rfl (r_loadVarA (i := 0) S rfl rfl rfl rfl) ?_ | refine st_val rfl (r_loadVar (i := 2) S rfl rfl rfl) ?_) | (refine g_alloc ?_; refine st_valE rfl (r_alloc S) ?_; rintro _ w ⟨b, rfl, -, S'⟩; replace S := S'.front; clear S') | (refine g_store ?_; first | (refine st_skipE rfl (r_storeVar (i := 0) S rfl rfl rfl rfl (of_decide_eq_true rfl) (of_decide_eq_true rfl)) ?_; intro w S'; replace S := S'; clear S') | (refine st_skipE rfl (r_storeVar (i := 1) S rfl rfl rfl rfl (of_decide_eq_true rfl) (of_decide_eq_true rfl)) ?_; intro w S'; replace S := S'; clear S') | (refine st_skipE rfl (r_storeVar (i := 2) S rfl rfl rfl rfl (of_decide_eq_true rfl) (of_decide_eq_true rfl)) ?_; intro w S'; replace S := S'; clear S')) | (refine WP_cond rfl (fun h => ?_) (fun h => ?_) <;> (fail_if_success (have hh : true = true := h)) <;> (fail_if_success (have hh : false = false := h)) <;> (try simp only [decide_eq_true_eq, decide_eq_false_iff_not, Bool.not_eq_true', Bool.not_eq_false', Int.not_lt, Int.not_le] at h) <;> (try (exfalso; omega))))
            refine st_valE rfl (r_litF (D := fGClaim) [nth q (m : Int)] (fun x => .agg x.enc.toArray) S rfl rfl (fun _ => rfl) rfl (by decide) (by decide)) ?_
            rintro _ w ⟨bl, rfl, -, -, S'⟩
            replace S := S'.front
            clear S'
            refine st_valE rfl (r_appendRd (i := 2) (D := fGClaim) S rfl (S.rdRow (D := fGClaim) (i := 0) rfl) rfl rfl rfl (by decide) (by intro x u hu; simp [fGClaim, GClaim.enc] at hu; rcases hu with rfl | rfl | rfl | rfl <;> rfl) (by rw [List.length_singleton]; omega) (by rw [List.length_singleton]; omega)) ?_
            rintro v' w ⟨_, S'⟩
            replace S := S'.keep [false, false, true, true, true]
            clear S'
            repeat' (first | refine WP_region ?_ | refine wl_nil ?_ | refine then_normal ?_ | refine inB_normal ?_ | (refine g_move ?_; refine st_move rfl ?_) | (refine g_assign ?_; refine st_assign rfl ?_) | (refine g_b_add ?_; (refine st_val rfl (r_addN rfl rfl ?_ ?_) ?_; (first | omega | (simp <;> omega)); (first | omega | (simp <;> omega)))))
            refine ⟨⟨_, ?_, m + 1, wm, acc ++ [nth q (m : Int)], v', ⟨rfl, rfl, rfl, rfl, rfl, rfl, rfl, rfl, rfl, trivial⟩, S, hpt, by omega, rfl⟩⟩
            omega
      · have em : m = q.length := by omega
        subst em
        rw [List.take_length] at hps
        rw [hps] at est
        have est2 : openC n l now (i + 1) = acc ++ newC n i a wm := est
        repeat' (first | refine WP_seq ?_ | refine WP_region ?_ | refine wl_nil ?_ | refine then_normal ?_ | refine then_exit ?_ | refine inB_here ?_ | refine WP_exit ?_ | refine WP_block ?_ | (refine g_move ?_; refine st_move rfl ?_) | (refine g_assign ?_; refine st_assign rfl ?_) | (refine g_b_lss ?_; refine st_val rfl (r_lss rfl rfl) ?_) | (refine g_c_len ?_; refine st_val rfl (r_lenSlice rfl) ?_) | (refine WP_cond rfl (fun h => ?_) (fun h => ?_) <;> (fail_if_success (have hh : true = true := h)) <;> (fail_if_success (have hh : false = false := h)) <;> (try simp only [decide_eq_true_eq, decide_eq_false_iff_not, Bool.not_eq_true', Bool.not_eq_false', Int.not_lt, Int.not_le] at h) <;> (try (exfalso; omega))))
        refine WP_loop (fun k σ w1 => ∃ (j : Nat) (vr : Value), Has σ [(0, .int .i64 n), (1, .slice A l.length c), (2, .int .i64 now), (9, .int .i64 (i : Int)), (10, .pointer (some ⟨b, 0, none⟩)), (11, .int .i64 wm), (12, vr), (16, .int .i64 (j : Int))] ∧ St w0 w1 [rowOb fGClaim 39 vr (acc ++ newP i a wm j), .var b 49 a.enc] ∧ j ≤ n.toNat ∧ (wm = 0 → j = 0) ∧ k = n.toNat - j) n.toNat ⟨0, vr, ⟨rfl, rfl, rfl, rfl, rfl, rfl, rfl, rfl, trivial⟩, by rw [show acc ++ newP i a wm 0 = acc by simp [newP]]; exact S.keep [true, true, false], by omega, by omega, by omega⟩ ?_
        clear S hs2
        rintro k σ w3 ⟨j, vr2, hs3, S, hj1, hj0, rfl⟩
        refine WP_has hs3 ?_
        have hnl := newP_len (i := (i : Int)) (a := a) (w := wm) j
        have hnl2 : (acc ++ newP i a wm j).length ≤ q.length + 8 := by rw [List.length_append]; omega
        by_cases hgo : j < n.toNat ∧ 0 < wm
        · obtain ⟨hj, hw⟩ := hgo
          have hsu := newP_succ (i := (i : Int)) (a := a) (w := wm) (c := j)
          by_cases hja : (j : Int) = a.Candidate
          · rw [if_neg (by omega), List.append_nil] at hsu
            repeat' (first | refine WP_seq ?_ | refine WP_region ?_ | refine wl_nil ?_ | refine then_normal ?_ | refine inB_normal ?_ | refine WP_skip ?_ | refine WP_block ?_ | (refine g_move ?_; refine st_move rfl ?_) | (refine g_assign ?_; refine st_assign rfl ?_) | (refine g_pick ?_; refine st_pickT rfl rfl ?_) | (refine g_b_add ?_; (refine st_val rfl (r_addN rfl rfl ?_ ?_) ?_; (first | omega | (simp <;> omega)); (first | omega | (simp <;> omega)))) | (refine g_b_neq ?_; refine st_val rfl (r_neq rfl rfl) ?_) | (refine g_b_lss ?_; refine st_val rfl (r_lss rfl rfl) ?_) | (refine g_b_gtr ?_; refine st_val rfl (r_gtr rfl rfl) ?_) | (refine g_fieldAddr ?_; refine st_val rfl (r_fieldAddrL rfl) ?_) | (refine g_load ?_; refine st_val rfl (r_loadVar (i := 1) S rfl rfl rfl) ?_) | (refine wl_split rfl rfl (fun h => ?_) (fun h => ?_) <;> (fail_if_success (have hh : true = true := h)) <;> (fail_if_success (have hh : false = false := h)) <;> (try simp only [decide_eq_true_eq, decide_eq_false_iff_not, Bool.not_eq_true', Bool.not_eq_false', Int.not_lt, Int.not_le] at h) <;> (try (exfalso; omega))) | (refine WP_cond rfl (fun h => ?_) (fun h => ?_) <;> (fail_if_success (have hh : true = true := h)) <;> (fail_if_success (have hh : false = false := h)) <;> (try simp only [decide_eq_true_eq, decide_eq_false_iff_not, Bool.not_eq_true', Bool.not_eq_false', Int.not_lt, Int.not_le] at h) <;> (try (exfalso; omega))))
            refine ⟨⟨_, ?_, j + 1, vr2, ⟨rfl, rfl, rfl, rfl, rfl, rfl, rfl, rfl, trivial⟩, by rw [hsu]; exact S, by omega, by omega, rfl⟩⟩
            omega
          · rw [if_pos hja] at hsu
            repeat' (first | refine WP_seq ?_ | refine WP_region ?_ | refine wl_nil ?_ | refine then_normal ?_ | refine WP_skip ?_ | refine WP_block ?_ | (refine g_move ?_; refine st_move rfl ?_) | (refine g_pick ?_; refine st_pickT rfl rfl ?_) | (refine g_b_add ?_; (refine st_val rfl (r_addN rfl rfl ?_ ?_) ?_; (first | omega | (simp <;> omega)); (first | omega | (simp <;> omega)))) | (refine g_b_neq ?_; refine st_val rfl (r_neq rfl rfl) ?_) | (refine g_b_lss ?_; refine st_val rfl (r_lss rfl rfl) ?_) | (refine g_b_gtr ?_; refine st_val rfl (r_gtr rfl rfl) ?_) | (refine g_build ?_; refine st_val rfl (bd39_0_1_2_3 rfl rfl rfl rfl) ?_) | (refine g_fieldAddr ?_; refine st_val rfl (r_fieldAddrL rfl) ?_) | (refine g_load ?_; refine st_val rfl (r_loadVar (i := 1) S rfl rfl rfl) ?_) | (refine wl_split rfl rfl (fun h => ?_) (fun h => ?_) <;> (fail_if_success (have hh : true = true := h)) <;> (fail_if_success (have hh : false = false := h)) <;> (try simp only [decide_eq_true_eq, decide_eq_false_iff_not, Bool.not_eq_true', Bool.not_eq_false', Int.not_lt, Int.not_le] at h) <;> (try (exfalso; omega))) | (refine WP_cond rfl (fun h => ?_) (fun h => ?_) <;> (fail_if_success (have hh : true = true := h)) <;> (fail_if_success (have hh : false = false := h)) <;> (try simp only [decide_eq_true_eq, decide_eq_false_iff_not, Bool.not_eq_true', Bool.not_eq_false', Int.not_lt, Int.not_le] at h) <;> (try (exfalso; omega))))
            refine st_valE rfl (r_litF (D := fGClaim) [⟨(j : Int), (i : Int), wm, a.At + 604800⟩] (fun x => .agg x.enc.toArray) S rfl rfl (fun _ => rfl) rfl (by decide) (by decide)) ?_
            rintro _ w ⟨bl, rfl, -, -, S'⟩
            replace S := S'.front
            clear S'
            refine st_valE rfl (r_appendRd (i := 1) (D := fGClaim) S rfl (S.rdRow (D := fGClaim) (i := 0) rfl) rfl rfl rfl (by decide) (by intro x u hu; simp [fGClaim, GClaim.enc] at hu; rcases hu with rfl | rfl | rfl | rfl <;> rfl) (by rw [List.length_singleton]; omega) (by rw [List.length_singleton]; omega)) ?_
            rintro v' w ⟨_, S'⟩
            replace S := S'.keep [false, true, true]
            clear S'
            repeat' (first | refine WP_region ?_ | refine wl_nil ?_ | refine then_normal ?_ | refine inB_normal ?_ | (refine g_move ?_; refine st_move rfl ?_) | (refine g_assign ?_; refine st_assign rfl ?_) | (refine g_b_add ?_; (refine st_val rfl (r_addN rfl rfl ?_ ?_) ?_; (first | omega | (simp <;> omega)); (first | omega | (simp <;> omega)))))
            refine ⟨⟨_, ?_, j + 1, v', ⟨rfl, rfl, rfl, rfl, rfl, rfl, rfl, rfl, trivial⟩, by rw [hsu, ← List.append_assoc]; exact S, by omega, by omega, rfl⟩⟩
            omega
        · have hstop : n.toNat ≤ j ∨ wm ≤ 0 := by
            by_cases h : j < n.toNat
            · right; by_cases h2 : 0 < wm
              · exact absurd ⟨h, h2⟩ hgo
              · omega
            · left; omega
          have hst : openC n l now (i + 1) = acc ++ newP i a wm j := by
            rw [est2]; congr 1
            unfold newC
            by_cases h : 0 < wm
            · have : j = n.toNat := by omega
              rw [if_pos h, this]; rfl
            · have : j = 0 := hj0 (by omega)
              rw [if_neg h, this]; rfl
          repeat' (first | refine WP_seq ?_ | refine WP_region ?_ | refine wl_nil ?_ | refine then_normal ?_ | refine inB_normal ?_ | refine then_exit ?_ | refine inB_here ?_ | refine WP_exit ?_ | refine WP_condF rfl ?_ | (refine g_guard ?_; refine st_off rfl ?_) | (refine g_move ?_; refine st_move rfl ?_) | (refine g_assign ?_; refine st_assign rfl ?_) | (refine g_pick ?_; first | refine st_pickT rfl rfl ?_ | refine st_pickF rfl rfl ?_) | (refine g_b_add ?_; (refine st_val rfl (r_addN rfl rfl ?_ ?_) ?_; (first | omega | (simp <;> omega)); (first | omega | (simp <;> omega)))) | (refine g_b_lss ?_; refine st_val rfl (r_lss rfl rfl) ?_) | (refine g_b_gtr ?_; refine st_val rfl (r_gtr rfl rfl) ?_) | (refine wl_split rfl rfl (fun h => ?_) (fun h => ?_) <;> (fail_if_success (have hh : true = true := h)) <;> (fail_if_success (have hh : false = false := h)) <;> (try simp only [decide_eq_true_eq, decide_eq_false_iff_not, Bool.not_eq_true', Bool.not_eq_false', Int.not_lt, Int.not_le] at h) <;> (try (exfalso; omega))) | (refine WP_cond rfl (fun h => ?_) (fun h => ?_) <;> (fail_if_success (have hh : true = true := h)) <;> (fail_if_success (have hh : false = false := h)) <;> (try simp only [decide_eq_true_eq, decide_eq_false_iff_not, Bool.not_eq_true', Bool.not_eq_false', Int.not_lt, Int.not_le] at h) <;> (try (exfalso; omega))))
          all_goals
            refine ⟨⟨_, ?_, i + 1, vr2, ⟨rfl, rfl, rfl, rfl, rfl, trivial⟩, by rw [hst]; exact S.keep [true, false], by omega, rfl⟩⟩
            omega
    · have est : openC n l now (i + 1) = openC n l now i := by rw [openC, if_neg hat]
      repeat' (first | refine WP_seq ?_ | refine WP_region ?_ | refine wl_nil ?_ | refine then_normal ?_ | refine then_exit ?_ | refine inB_here ?_ | refine WP_skip ?_ | refine WP_exit ?_ | refine WP_block ?_ | (refine g_move ?_; refine st_move rfl ?_) | (refine g_assign ?_; refine st_assign rfl ?_) | (refine g_b_add ?_; (refine st_val rfl (r_addN rfl rfl ?_ ?_) ?_; (first | omega | (simp <;> omega)); (first | omega | (simp <;> omega)))) | (refine g_b_lss ?_; refine st_val rfl (r_lss rfl rfl) ?_) | (refine g_b_gtr ?_; refine st_val rfl (r_gtr rfl rfl) ?_) | (refine g_c_len ?_; refine st_val rfl (r_lenSlice rfl) ?_) | (refine g_fieldAddr ?_; refine st_val rfl (r_fieldAddrL rfl) ?_) | (refine g_indexAddr ?_; (refine st_val rfl (r_indexAddr (hr.mono S.below) rfl rfl ?_ ?_) ?_; (first | omega | (simp <;> omega)); (first | omega | (simp <;> omega)))) | (refine g_load ?_; first | (refine st_val rfl (r_loadElem (hr.mono S.below) rfl ?_ ?_) ?_; (first | omega | (simp <;> omega)); (first | omega | (simp <;> omega))) | refine st_val rfl (r_loadVar (i := 0) S rfl rfl rfl) ?_) | (refine g_alloc ?_; refine st_valE rfl (r_alloc S) ?_; rintro _ w ⟨b, rfl, -, S'⟩; replace S := S'.front; clear S') | (refine g_store ?_; (refine st_skipE rfl (r_storeVar (i := 0) S rfl rfl rfl rfl (of_decide_eq_true rfl) (of_decide_eq_true rfl)) ?_; intro w S'; replace S := S'; clear S')) | (refine WP_cond rfl (fun h => ?_) (fun h => ?_) <;> (fail_if_success (have hh : true = true := h)) <;> (fail_if_success (have hh : false = false := h)) <;> (try simp only [decide_eq_true_eq, decide_eq_false_iff_not, Bool.not_eq_true', Bool.not_eq_false', Int.not_lt, Int.not_le] at h) <;> (try (exfalso; omega))))
      refine ⟨⟨_, ?_, i + 1, v, ⟨rfl, rfl, rfl, rfl, rfl, trivial⟩, by rw [est]; exact S.tail, by omega, rfl⟩⟩
      omega
  · repeat' (first | refine WP_seq ?_ | refine WP_region ?_ | refine wl_nil ?_ | refine then_normal ?_ | refine then_exit ?_ | refine inB_here ?_ | refine WP_ret ?_ | refine WP_exit ?_ | (refine g_move ?_; refine st_move rfl ?_) | (refine g_assign ?_; refine st_assign rfl ?_) | (refine g_b_lss ?_; refine st_val rfl (r_lss rfl rfl) ?_) | (refine g_c_len ?_; refine st_val rfl (r_lenSlice rfl) ?_) | (refine WP_cond rfl (fun h => ?_) (fun h => ?_) <;> (fail_if_success (have hh : true = true := h)) <;> (fail_if_success (have hh : false = false := h)) <;> (try simp only [decide_eq_true_eq, decide_eq_false_iff_not, Bool.not_eq_true', Bool.not_eq_false', Int.not_lt, Int.not_le] at h) <;> (try (exfalso; omega))))
    have ei : i = l.length := by omega
    subst ei
    refine end2 rfl rfl rfl ⟨_, rfl, S.below, v, ?_, ?_⟩
    · rw [he]; rfl
    · rw [hcl]; exact S.row (i := 0) rfl
end Go.Proofs.Ytcbidfedffegpaa
