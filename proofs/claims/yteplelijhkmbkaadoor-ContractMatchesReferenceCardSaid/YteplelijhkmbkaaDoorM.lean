import Derived.Test.YteplelijhkmbkaaDoorL
namespace Go.Proofs.YteplelijhkmbkaaDoor
open Go Go.Gx Go.RowKit
set_option linter.unusedVariables false
set_option linter.unusedSimpArgs false

def unseen (n : Nat) (seen : Array Nat) : Nat := ((List.range n).filter fun m => !seen.contains m).length
theorem filter_lt {α : Type} {p q : α → Bool} {l : List α} (h : ∀ x, q x = true → p x = true) {a : α} (ha : a ∈ l) (hp : p a = true) (hq : q a = false) : (l.filter q).length < (l.filter p).length := by
  induction l with
  | nil => cases ha
  | cons y r ih =>
    have hle : (r.filter q).length ≤ (r.filter p).length := by
      clear ih ha
      induction r with
      | nil => exact Nat.le_refl _
      | cons z r ih =>
        rw [List.filter_cons, List.filter_cons]
        cases hz : q z with
        | true => rw [h z hz]; simp; exact ih
        | false => cases p z <;> simp <;> omega
    rw [List.filter_cons, List.filter_cons]
    rcases List.mem_cons.1 ha with rfl | ha
    · rw [hp, hq]; simp; omega
    · have := ih ha
      cases hz : q y with
      | true => rw [h y hz]; simp; omega
      | false => cases p y <;> simp <;> omega
theorem unseen_push {n m : Nat} {seen : Array Nat} (hm : m < n) (h : m ∉ seen) : unseen n (seen.push m) < unseen n seen := by
  refine filter_lt (a := m) (fun x hx => ?_) (List.mem_range.2 hm) (by simpa using h) (by simp)
  simp at hx ⊢
  exact hx.1
theorem n6_of {C : List (Int × GContract)} {Sp : List (GSpot × Bool)} {c : GContract} {x : GSpot} {m : Nat} {s : GSpot × Bool} (hs : Sp[m]? = some s) (h : nearI ((mGet s.1.Contract C).getD default) c s.1 x.At = true) : n6 C Sp c x = true :=
  List.any_eq_true.2 ⟨s, List.mem_of_getElem? hs, h⟩
theorem n6_no {C : List (Int × GContract)} {Sp : List (GSpot × Bool)} {c : GContract} {x : GSpot} (h : ∀ (m : Nat) (s : GSpot × Bool), Sp[m]? = some s → nearI ((mGet s.1.Contract C).getD default) c s.1 x.At = false) : n6 C Sp c x = false := by
  unfold n6
  rw [List.any_eq_false]
  intro s hs
  obtain ⟨m, hm⟩ := List.getElem?_of_mem hs
  rw [h m s hm]; decide
section
variable {w0 : World} {bt b1 b2 b3 b4 : Nat} {C : List (Int × GContract)} {Sp : List (GSpot × Bool)} {Mn : List (Int × Int)} {Dy : List (GDay × Int)} {c : GContract} {x : GSpot}
theorem t6_spec (T : TalAt w0 bt b1 b2 b3 b4 C Sp Mn Dy) (hx : 0 ≤ x.At ∧ x.At ≤ 9999999) (hs : ∀ s ∈ Sp, 0 ≤ s.1.At ∧ s.1.At ≤ 9999999) : CallsV Tryd.prog 86 #[.pointer (some ⟨bt, 0, none⟩), .agg c.enc.toArray, .agg x.enc.toArray] w0 (.bool (n6 C Sp c x)) := by
  have S := St.start w0
  refine CallsV.mk ?_
  refine calls_enter Tryd.func86 rfl (by intro _ h; first | exact nomatch h.1 | (obtain ⟨_, h, _⟩ := h; exact nomatch h)) Tryd.ntmps86 rfl ?_
  repeat' (first | refine WP_seq ?_ | refine WP_region ?_ | refine wl_nil ?_ | refine then_normal ?_ | refine WP_block ?_ | (refine g_move ?_; refine st_move rfl ?_) | (refine g_assign ?_; refine st_assign rfl ?_) | (refine g_nilCheck ?_; refine st_val rfl (r_nilCheck rfl) ?_) | (refine g_fieldAddr ?_; refine st_val rfl (r_fieldAddrL rfl) ?_) | (refine g_load ?_; refine st_val rfl (r_loadAt (T.box.mono S.below) rfl rfl) ?_) | (refine g_box ?_; refine st_valE rfl (r_box S rfl) ?_; rintro _ w ⟨b, rfl, -, S'⟩; replace S := S'; clear S') | (refine st_valE rfl (r_rangeH (eK := eP) (eV := eB) S (T.s.mono S.below) rfl) ?_; rintro _ w ⟨bi, rfl, -, S'⟩; replace S := S'; clear S'))
  refine WP_loop (fun k σ w1 => ∃ (bc bx bi : Nat) (seen : Array Nat), Has σ [(0, .pointer (some ⟨bt, 0, none⟩)), (4, .pointer (some ⟨bc, 0, none⟩)), (5, .pointer (some ⟨bx, 0, none⟩)), (13, .pointer (some ⟨bi, 0, none⟩))] ∧ St w0 w1 [.var bc 29 c.enc, .var bx 31 x.enc, iterOb b2 bi Sp.length seen] ∧ (∀ m ∈ seen, ∀ s, Sp[m]? = some s → nearI ((mGet s.1.Contract C).getD default) c s.1 x.At = false) ∧ k = unseen Sp.length seen) (unseen Sp.length #[]) ⟨_, _, _, #[], ⟨rfl, rfl, rfl, rfl, trivial⟩, S, fun m h => by simp at h, rfl⟩ ?_
  clear S
  rintro k σ w1 ⟨bc, bx, bi, seen, hs', S, hno, hk⟩
  refine WP_has hs' ?_
  repeat' (first | refine WP_seq ?_ | refine WP_region ?_)
  refine st_valE rfl (r_nextH (j := 2) (eK := eP) (eV := eB) S (T.s.mono S.below) rfl rfl) ?_
  rintro _ w (⟨rfl, hall, S'⟩ | ⟨m, s, hm, hms, rfl, S'⟩) <;> (replace S := S'; clear S')
  · repeat' (first | refine WP_seq ?_ | refine WP_region ?_ | refine wl_nil ?_ | refine then_normal ?_ | refine then_exit ?_ | refine inB_here ?_ | refine WP_ret ?_ | refine WP_exit ?_ | refine WP_condF rfl ?_ | (refine g_assign ?_; refine st_assign rfl ?_) | (refine g_extract ?_; refine st_val rfl (r_extract rfl rfl) ?_))
    refine end1 rfl rfl ⟨rb ?_, S.below⟩
    exact (n6_no fun m s h => hno m (hall m (List.getElem?_eq_some_iff.1 h).1) s h).symm
  · have hlt := (List.getElem?_eq_some_iff.1 hms).1
    have hsa := hs s (List.mem_of_getElem? hms)
    repeat' (first | refine WP_seq ?_ | refine WP_region ?_ | refine wl_nil ?_ | refine then_normal ?_ | refine inB_normal ?_ | refine then_ret ?_ | refine inB_ret ?_ | refine WP_ret ?_ | refine WP_skip ?_ | refine WP_block ?_ | refine WP_condT rfl ?_ | refine WP_condF rfl ?_ | refine WP_drawGrow 7 8 (by kernel_rfl) (by decide +kernel) ?_ | refine wg_nil ?_ | (refine wg_val rfl (r_alloc S) (by rintro _ _ ⟨b, -, h, -⟩; exact h) ?_; rintro _ w ⟨b, rfl, -, S'⟩ w hb; replace S := S'.grow hb; clear S' hb) | (refine ql_nil ?_; intro w hb; replace S := S.grow hb; clear hb) | (refine g_guard ?_; refine st_off rfl ?_) | (refine g_move ?_; refine st_move rfl ?_) | (refine g_assign ?_; refine st_assign rfl ?_) | (refine g_pick ?_; first | refine st_pickT rfl rfl ?_ | refine st_pickF rfl rfl ?_) | (refine g_b_sub ?_; (refine st_val rfl (r_subN rfl rfl ?_ ?_) ?_; (first | omega | (simp <;> omega)); (first | omega | (simp <;> omega)))) | (refine g_b_eql ?_; refine st_val rfl (r_eql rfl rfl) ?_) | (refine g_b_neq ?_; refine st_val rfl (r_neq rfl rfl) ?_) | (refine g_b_lss ?_; refine st_val rfl (r_lss rfl rfl) ?_) | (refine g_extract ?_; refine st_val rfl (r_extract rfl rfl) ?_) | (refine g_c_max ?_; refine st_val rfl (r_max2 rfl rfl) ?_) | (refine g_fieldAddr ?_; refine st_val rfl (r_fieldAddrL rfl) ?_) | (refine g_load ?_; first | refine st_val rfl (r_loadVar (i := 0) S rfl rfl rfl) ?_ | refine st_val rfl (r_loadVar (i := 1) S rfl rfl rfl) ?_ | refine st_val rfl (r_loadVar (i := 3) S rfl rfl rfl) ?_ | refine st_val rfl (r_loadVar (i := 4) S rfl rfl rfl) ?_) | (refine gq_move ?_; refine q_move rfl ?_) | (refine gq_nilCheck ?_; refine q_val rfl (fun w' hb => r_nilCheck rfl) ?_) | (refine gq_fieldAddr ?_; refine q_val rfl (fun w' hb => r_fieldAddrL rfl) ?_) | (refine gq_load ?_; first | refine q_val rfl (fun w' hb => r_loadAt (T.box.mono (S.grow hb).below) rfl rfl) ?_ | refine q_val rfl (fun w' hb => r_loadVar (i := 3) (S.grow hb) rfl rfl rfl) ?_) | (refine g_alloc ?_; refine st_valE rfl (r_alloc S) ?_; rintro _ w ⟨b, rfl, -, S'⟩; replace S := S'; clear S') | (refine g_store ?_; first | (refine st_skipE rfl (r_storeVar (i := 0) S rfl rfl rfl rfl (of_decide_eq_true rfl) (of_decide_eq_true rfl)) ?_; intro w S'; replace S := S'; clear S') | (refine st_skipE rfl (r_storeVar (i := 1) S rfl rfl rfl rfl (of_decide_eq_true rfl) (of_decide_eq_true rfl)) ?_; intro w S'; replace S := S'; clear S') | (refine st_skipE rfl (r_storeVar (i := 2) S rfl rfl rfl rfl (of_decide_eq_true rfl) (of_decide_eq_true rfl)) ?_; intro w S'; replace S := S'; clear S') | (refine st_skipE rfl (r_storeVar (i := 3) S rfl rfl rfl rfl (of_decide_eq_true rfl) (of_decide_eq_true rfl)) ?_; intro w S'; replace S := S'; clear S') | (refine st_skipE rfl (r_storeVar (i := 4) S rfl rfl rfl rfl (of_decide_eq_true rfl) (of_decide_eq_true rfl)) ?_; intro w S'; replace S := S'; clear S')) | (refine st_val rfl (r_entryH (j := 2) (eK := eP) (eV := eB) S (T.s.mono S.below) rfl hms rfl) ?_) | (refine q_val rfl (fun w' hb => r_lookup1D (k := s.1.Contract) (eK := eI) (eV := eC) default rfl (T.c.mono (S.grow hb).below) rfl rfl) ?_) | (refine wl_split rfl rfl (fun h => ?_) (fun h => ?_) <;> (fail_if_success (have hh : true = true := h)) <;> (fail_if_success (have hh : false = false := h)) <;> (try simp only [decide_eq_true_eq, decide_eq_false_iff_not, Bool.not_eq_true', Bool.not_eq_false', Int.not_lt, Int.not_le] at h) <;> (try (exfalso; omega))) | (refine WP_cond rfl (fun h => ?_) (fun h => ?_) <;> (fail_if_success (have hh : true = true := h)) <;> (fail_if_success (have hh : false = false := h)) <;> (try simp only [decide_eq_true_eq, decide_eq_false_iff_not, Bool.not_eq_true', Bool.not_eq_false', Int.not_lt, Int.not_le] at h) <;> (try (exfalso; omega))))
    all_goals first
      | (refine end1 rfl rfl ⟨rb ?_, S.below⟩
         symm; refine n6_of hms ?_
         unfold nearI; rw [decide_eq_true_eq]; exact ⟨by omega, by omega, by omega⟩)
      | (refine ⟨⟨_, ?_, _, _, _, seen.push m, ⟨rfl, rfl, rfl, rfl, trivial⟩, S.keep [true, true, true], fun m' h' s' e => ?_, rfl⟩⟩
         · rw [hk]; exact unseen_push hlt hm
         · rcases Array.mem_push.1 h' with h' | rfl
           · exact hno m' h' s' e
           · rw [hms] at e; cases e
             unfold nearI; rw [decide_eq_false_iff_not]
             rintro ⟨q1, q2, q3⟩; first | omega | exact absurd q2 (by omega))
end
end Go.Proofs.YteplelijhkmbkaaDoor
