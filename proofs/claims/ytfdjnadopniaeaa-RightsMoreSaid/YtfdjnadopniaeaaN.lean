import Derived.Test.YtfdjnadopniaeaaM1
namespace Go.Proofs.Ytfdjnadopniaeaa
open Go Go.Gx Go.RowKit
open Kuhn
set_option linter.unusedVariables false
set_option linter.unusedSimpArgs false

def asgL (l : List GGrant) (us : List GUse) : Bool := A (prmN l us) (plyN l) l.length us.length
theorem kuhn_none {perm : Nat → Nat → Bool} {plays : Nat → Nat} {m n : Nat} (h : kuhn perm plays m n = none) : ∀ k, n ≤ k → kuhn perm plays m k = none := by
  intro k hk
  induction k with
  | zero => have : n = 0 := by omega
            subst this; exact h
  | succ k ih =>
    by_cases e : n = k + 1
    · subst e; exact h
    · rw [kuhn, ih (by omega)]
theorem nilRows {w0 w : World} {os : List Ob} (S : St w0 w os) : ∀ m, St w0 w (os ++ (rowsK (List.replicate m (.slice none 0 0)) (List.replicate m []) ++ []))
  | 0 => by simpa [rowsK, rowsOb] using S
  | m + 1 => by
    have := (nilRows S m).nilRow (fInt .i64) 3
    refine this.eqos ?_
    simp only [List.append_nil, List.append_assoc, rowsK, rowsOb, List.map_replicate]
    congr 1
    rw [List.zipWith_replicate, List.zipWith_replicate]
    simp only [Nat.min_self]
    rw [List.replicate_succ' (n := m)]
    rfl
theorem permK {o1 o2 o3 o4 a b c : Ob} {R : List Ob} : (a :: b :: c :: o1 :: o2 :: o3 :: o4 :: R).Perm (o1 :: o2 :: o3 :: o4 :: c :: b :: a :: R) :=
  ((List.perm_append_comm (l₁ := [a, b, c]) (l₂ := [o1, o2, o3, o4])).trans (List.Perm.append_left _ (List.reverse_perm [c, b, a]))).append_right R
theorem dropK {w0 w : World} {o1 o2 o3 o4 a b c : Ob} {R : List Ob} (S : St w0 w (o1 :: o2 :: o3 :: o4 :: a :: b :: c :: R)) : St w0 w (o1 :: o2 :: o3 :: o4 :: R) :=
  S.sub (.cons_cons _ (.cons_cons _ (.cons_cons _ (.cons_cons _ (.cons _ (.cons _ (.cons _ (List.Sublist.refl _))))))))
set_option maxRecDepth 20000 in
set_option maxHeartbeats 16000000 in
theorem isAssignable_spec {l : List GGrant} {us : List GUse} {vl vu : Value} {w0 : World} (hr : Rd fGGrant.ty w0 vl l) (hr2 : Rd fGUse.ty w0 vu us) (hl : validG l = true) (hu : validU us = true) :
    CallsV Try.prog 38 #[vl, vu] w0 (.bool (asgL l us)) := by
  have S := St.start w0
  have hl12 : l.length ≤ 12 := by unfold validG at hl; simp at hl; omega
  have hu10 : us.length ≤ 10 := by unfold validU at hu; simp at hu; omega
  obtain ⟨A0, c, rfl⟩ := hr.len
  obtain ⟨A2, cu, rfl⟩ := hr2.len
  refine CallsV.mk ?_
  refine calls_enter Try.func38 rfl (by intro _ h; first | exact nomatch h.1 | (obtain ⟨_, h, _⟩ := h; exact nomatch h)) Try.ntmps38 rfl ?_
  repeat' (first | refine WP_seq ?_ | refine WP_region ?_ | refine wl_nil ?_ | refine then_normal ?_ | (refine g_assign ?_; refine st_assign rfl ?_) | (refine g_c_len ?_; refine st_val rfl (r_lenSlice rfl) ?_) | (refine g_load ?_; refine st_val rfl (r_loadVar (i := 0) S rfl rfl rfl) ?_) | (refine g_box ?_; refine st_valE rfl (r_box S rfl) ?_; rintro _ w ⟨b, rfl, -, S'⟩; replace S := S'; clear S'))
  refine st_valE rfl (r_makeF (D := fVal) (m := l.length) (.slice none 0 0) S rfl rfl rfl (by decide) (by omega) (by omega)) ?_
  rintro _ w ⟨bg, rfl, -, S'⟩; replace S := S'; clear S'
  repeat' (first | refine WP_seq ?_ | refine WP_region ?_ | refine wl_nil ?_ | refine then_normal ?_ | refine WP_block ?_ | (refine g_move ?_; refine st_move rfl ?_) | (refine g_c_len ?_; refine st_val rfl (r_lenSlice rfl) ?_) | (refine g_load ?_; refine st_val rfl (r_loadVar (i := 1) S rfl rfl rfl) ?_) | (refine g_alloc ?_; refine st_valE rfl (r_alloc S) ?_; rintro _ w ⟨b, rfl, -, S'⟩; replace S := S'; clear S') | (refine g_store ?_; first | (refine st_skipE rfl (r_storeVar (i := 0) S rfl rfl rfl rfl (of_decide_eq_true rfl) (of_decide_eq_true rfl)) ?_; intro w S'; replace S := S'; clear S') | (refine st_skipE rfl (r_storeVar (i := 1) S rfl rfl rfl rfl (of_decide_eq_true rfl) (of_decide_eq_true rfl)) ?_; intro w S'; replace S := S'; clear S') | (refine st_skipE rfl (r_storeVar (i := 2) S rfl rfl rfl rfl (of_decide_eq_true rfl) (of_decide_eq_true rfl)) ?_; intro w S'; replace S := S'; clear S') | (refine st_skipE rfl (r_storeVar (i := 3) S rfl rfl rfl rfl (of_decide_eq_true rfl) (of_decide_eq_true rfl)) ?_; intro w S'; replace S := S'; clear S')))
  refine WP_loop (fun k σ w1 => ∃ (i : Int) (b2 b3 b5 : Nat) (vg : Value) (hs : List Value) (g : List (List Nat)), Has σ [(2, ptr b2), (3, ptr b3), (5, ptr b5), (13, .int .i64 us.length), (14, .int .i64 i)] ∧ St w0 w1 (.var b2 22 [.slice A0 l.length c] :: .var b3 23 [.slice A2 us.length cu] :: rowOb fVal 26 vg hs :: .var b5 80 [vg] :: (rowsK hs g ++ [])) ∧ 0 ≤ i ∧ i ≤ us.length ∧ k = us.length - i.toNat ∧ hs.length = l.length ∧ kuhn (prmN l us) (plyN l) l.length i.toNat = some g) us.length ⟨0, _, _, _, _, _, _, ⟨rfl, rfl, rfl, rfl, rfl, trivial⟩, nilRows S l.length, by omega, by omega, by omega, by simp, rfl⟩ ?_
  clear S
  rintro k σ w1 ⟨i, b2, b3, b5, vg, hs, g, hsl, S, hi0, hi1, rfl, hhl, hk⟩
  refine WP_has hsl ?_
  by_cases hi : i < us.length
  · have hspec := kuhn_spec (perm := prmN l us) (plays := plyN l) (m := l.length) i.toNat
    rw [hk] at hspec
    have hks : kuhn (prmN l us) (plyN l) l.length (i + 1).toNat = if (give (prmN l us) (plyN l) l.length (l.length + 1) i.toNat ⟨List.replicate l.length false, g⟩).1 then some (give (prmN l us) (plyN l) l.length (l.length + 1) i.toNat ⟨List.replicate l.length false, g⟩).2.given else none := by
      rw [show (i + 1).toNat = i.toNat + 1 by omega, kuhn, hk]
    have hOk : Ok (prmN l us) (plyN l) l.length ⟨List.replicate l.length false, g⟩ := ⟨by simp, hspec.gl, hspec.pm, hspec.cp⟩
    have hun : unseen ⟨List.replicate l.length false, g⟩ < l.length + 1 := by unfold unseen; exact Nat.lt_succ_of_le (Nat.le_trans List.countP_le_length (by simp))
    repeat' (first | refine WP_seq ?_ | refine WP_region ?_ | refine wl_nil ?_ | refine then_normal ?_ | refine WP_skip ?_ | refine WP_block ?_ | (refine g_move ?_; refine st_move rfl ?_) | (refine g_assign ?_; refine st_assign rfl ?_) | (refine g_b_lss ?_; refine st_val rfl (r_lss rfl rfl) ?_) | (refine g_c_len ?_; refine st_val rfl (r_lenSlice rfl) ?_) | (refine g_load ?_; refine st_val rfl (r_loadVar (i := 0) S rfl rfl rfl) ?_) | (refine WP_cond rfl (fun h => ?_) (fun h => ?_) <;> (fail_if_success (have hh : true = true := h)) <;> (fail_if_success (have hh : false = false := h)) <;> (try simp only [decide_eq_true_eq, decide_eq_false_iff_not, Bool.not_eq_true', Bool.not_eq_false', Int.not_lt, Int.not_le] at h) <;> (try (exfalso; omega))))
    refine st_valE rfl (r_makeF (D := fBool) (m := l.length) false S rfl rfl rfl (by decide) (by omega) (by omega)) ?_
    rintro _ w ⟨bs, rfl, -, S'⟩; replace S := S'.front; clear S'
    repeat' (first | refine WP_seq ?_ | refine WP_region ?_ | refine wl_nil ?_ | refine then_normal ?_ | (refine g_move ?_; refine st_move rfl ?_) | (refine g_makeFunc ?_; refine st_val rfl (r_makeFn5 rfl rfl rfl rfl rfl) ?_) | (refine g_load ?_; refine st_val rfl (r_loadVar (i := 0) S rfl rfl rfl) ?_) | (refine g_alloc ?_; refine st_valE rfl (r_alloc S) ?_; rintro _ w ⟨b, rfl, -, S'⟩; replace S := S'.front; clear S') | (refine g_store ?_; first | (refine st_skipE rfl (r_storeVar (i := 0) S rfl rfl rfl rfl (of_decide_eq_true rfl) (of_decide_eq_true rfl)) ?_; intro w S'; replace S := S'; clear S') | (refine st_skipE rfl (r_storeVar (i := 1) S rfl rfl rfl rfl (of_decide_eq_true rfl) (of_decide_eq_true rfl)) ?_; intro w S'; replace S := S'; clear S') | (refine st_skipE rfl (r_storeVar (i := 2) S rfl rfl rfl rfl (of_decide_eq_true rfl) (of_decide_eq_true rfl)) ?_; intro w S'; replace S := S'; clear S') | (refine st_skipE rfl (r_storeVar (i := 3) S rfl rfl rfl rfl (of_decide_eq_true rfl) (of_decide_eq_true rfl)) ?_; intro w S'; replace S := S'; clear S')))
    replace S := S.perm permK
    refine st_callW rfl (r_call1 rfl rfl) (give_run hr hr2 hl hu (l.length + 1) i i.toNat ⟨List.replicate l.length false, g⟩ hs [] _ (by omega) (by omega) hOk hun (fun o ho => by have := List.mem_range.1 (hspec.all.mem_iff.1 ho); omega) hhl S) ?_
    rintro v w ⟨hs', hhl', rfl, hsame, S'⟩; replace S := dropK S'; clear S'
    cases hg : (give (prmN l us) (plyN l) l.length (l.length + 1) i.toNat ⟨List.replicate l.length false, g⟩).1 with
    | true =>
      rw [if_pos hg] at hks
      repeat' (first | refine WP_region ?_ | refine wl_nil ?_ | refine then_normal ?_ | refine inB_normal ?_ | refine WP_skip ?_ | refine WP_condF rfl ?_ | (refine g_move ?_; refine st_move rfl ?_) | (refine g_b_add ?_; (refine st_val rfl (r_addN rfl rfl ?_ ?_) ?_; (first | omega | (simp <;> omega)); (first | omega | (simp <;> omega)))) | (refine g_un ?_; refine st_val rfl (r_not rfl) ?_))
      refine ⟨⟨_, ?_, i + 1, b2, b3, b5, vg, hs', _, ⟨rfl, rfl, rfl, rfl, rfl, trivial⟩, S, by omega, by omega, rfl, hhl', hks⟩⟩
      omega
    | false =>
      rw [if_neg (by rw [hg]; decide)] at hks
      repeat' (first | refine WP_seq ?_ | refine WP_region ?_ | refine wl_nil ?_ | refine then_normal ?_ | refine then_ret ?_ | refine inB_ret ?_ | refine WP_ret ?_ | refine WP_condT rfl ?_ | (refine g_assign ?_; refine st_assign rfl ?_) | (refine g_un ?_; refine st_val rfl (r_not rfl) ?_))
      refine end1 rfl rfl ⟨rb ?_, S.below⟩
      symm; unfold asgL A; rw [kuhn_none hks _ (by omega)]; rfl
  · have e : i.toNat = us.length := by omega
    rw [e] at hk
    repeat' (first | refine WP_seq ?_ | refine WP_region ?_ | refine wl_nil ?_ | refine then_normal ?_ | refine then_exit ?_ | refine inB_here ?_ | refine WP_ret ?_ | refine WP_exit ?_ | (refine g_assign ?_; refine st_assign rfl ?_) | (refine g_b_lss ?_; refine st_val rfl (r_lss rfl rfl) ?_) | (refine WP_cond rfl (fun h => ?_) (fun h => ?_) <;> (fail_if_success (have hh : true = true := h)) <;> (fail_if_success (have hh : false = false := h)) <;> (try simp only [decide_eq_true_eq, decide_eq_false_iff_not, Bool.not_eq_true', Bool.not_eq_false', Int.not_lt, Int.not_le] at h) <;> (try (exfalso; omega))))
    refine end1 rfl rfl ⟨rb ?_, S.below⟩
    unfold asgL A; rw [hk]; rfl
end Go.Proofs.Ytfdjnadopniaeaa
