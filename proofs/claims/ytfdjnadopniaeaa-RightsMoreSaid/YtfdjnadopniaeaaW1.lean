import Derived.Test.YtfdjnadopniaeaaW
namespace Go.Proofs.Ytfdjnadopniaeaa
open Go Go.Gx Go.RowKit
open Kuhn
set_option linter.unusedVariables false
set_option linter.unusedSimpArgs false

theorem perm4 {a b c d : Ob} {R : List Ob} : (a :: b :: c :: d :: R).Perm (d :: b :: c :: a :: R) := by
  have h : [a, b, c, d].Perm [d, b, c, a] := by
    refine (List.reverse_perm [d, c, b, a]).trans (List.Perm.cons d ?_)
    exact List.Perm.swap _ _ _
  exact h.append_right R
theorem sets1_run {w0 w : World} {base ex : List Ob} {stop : Value → List Ob} {p : List Nat → Bool} {L kk n bk bn : Nat} (hn : n ≤ 1000) (hk : kk ≤ 1000) (hY : Yld w0 base stop p L kk n)
    (S : St w0 w (.var bn 3 [.int .i64 n] :: .var bk 3 [.int .i64 kk] :: (base ++ ex))) :
    CallsW Try.prog 54 #[yldV L, ptr bk, ptr bn] w fun u w' => match (cmb kk (List.range n)).find? p with
      | none => ∃ ex', St w0 w' (base ++ ex') ∧ ex' = ex
      | some X => ∃ vX ex', St w0 w' (rowOb (fInt .i64) 3 vX (iz X) :: (stop vX ++ (ex' ++ ex))) := by
  refine CallsW.mk ?_
  refine calls_enter Try.func54 rfl (by intro _ h; first | exact nomatch h.1 | (obtain ⟨_, h, _⟩ := h; exact nomatch h)) Try.ntmps54 rfl ?_
  repeat' (first | refine WP_seq ?_ | refine WP_region ?_ | refine wl_nil ?_ | refine then_normal ?_ | (refine g_makeFunc ?_; refine st_val rfl (r_makeFn4 rfl rfl rfl rfl) ?_) | (refine g_load ?_; refine st_val rfl (r_loadVar (i := 0) S rfl rfl rfl) ?_) | (refine g_box ?_; refine st_valE rfl (r_box S rfl) ?_; rintro _ w ⟨b, rfl, -, S'⟩; replace S := S'.front; clear S') | (refine g_alloc ?_; refine st_valE rfl (r_alloc S) ?_; rintro _ w ⟨b, rfl, -, S'⟩; replace S := S'.front; clear S') | (refine g_store ?_; first | (refine st_skipE rfl (r_storeVar (i := 0) S rfl rfl rfl rfl (of_decide_eq_true rfl) (of_decide_eq_true rfl)) ?_; intro w S'; replace S := S'; clear S') | (refine st_skipE rfl (r_storeVar (i := 1) S rfl rfl rfl rfl (of_decide_eq_true rfl) (of_decide_eq_true rfl)) ?_; intro w S'; replace S := S'; clear S') | (refine st_skipE rfl (r_storeVar (i := 2) S rfl rfl rfl rfl (of_decide_eq_true rfl) (of_decide_eq_true rfl)) ?_; intro w S'; replace S := S'; clear S') | (refine st_skipE rfl (r_storeVar (i := 3) S rfl rfl rfl rfl (of_decide_eq_true rfl) (of_decide_eq_true rfl)) ?_; intro w S'; replace S := S'; clear S')))
  have S2 := (S.perm perm4).nilRow (fInt .i64) 3
  replace S := S2.front.perm (List.perm_middle (l₁ := [_, _, _, _])).symm; clear S2
  refine st_callW rfl (r_call2 rfl rfl rfl) (ext_run hn hk hY kk [] 0 (.slice none 0 0) ex w (by simp) (by omega) (by omega) (fun x hx => by cases hx) S) ?_
  intro u w hE
  have hm : ((cmb kk ((List.range n).drop (0 : Int).toNat)).map ([] ++ ·)) = cmb kk (List.range n) := by simp
  rw [hm] at hE
  unfold ExtR at hE
  refine wl_nil ?_
  cases hf : (cmb kk (List.range n)).find? p with
  | none =>
    rw [hf] at hE
    obtain ⟨rfl, S3⟩ := hE
    exact end0 rfl ⟨_, rfl, ex, S3.sub (by exact .cons _ (.cons _ (.cons _ (.cons _ (.cons _ (List.Sublist.refl _)))))), rfl⟩
  | some X =>
    rw [hf] at hE
    obtain ⟨rfl, vX, ex', S3⟩ := hE
    exact end0 rfl ⟨_, rfl, vX, ex', S3⟩
end Go.Proofs.Ytfdjnadopniaeaa
