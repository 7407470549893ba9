import Derived.Test.YtfdjnadopniaeaaN
namespace Go.Proofs.Ytfdjnadopniaeaa
open Go Go.Gx Go.RowKit
open Kuhn
set_option linter.unusedVariables false
set_option linter.unusedSimpArgs false

theorem cloneG_run {v : Value} {l : List GGrant} {w0 : World} (hr : Rd (fGGrant).ty w0 v l) (hl : l.length ≤ 1000000) : CallsR Try.prog 39 #[v] w0 fun v' w' => NewRow (fGGrant) 52 w0 w' v' l := by
  have S := St.start w0
  obtain ⟨A0, c, rfl⟩ := hr.len
  refine CallsR.mk ?_
  refine calls_enter Try.func39 rfl (by intro _ h; first | exact nomatch h.1 | (obtain ⟨_, h, _⟩ := h; exact nomatch h)) Try.ntmps39 rfl ?_
  cases A0 with
  | none =>
    have hl0 : l = [] := by
      obtain ⟨A1, c1, e, _, h⟩ := hr
      cases e
      rcases h with h | ⟨a, e, _⟩
      · exact h.1
      · cases e
    subst hl0
    repeat' (first | refine WP_seq ?_ | refine WP_region ?_ | refine wl_nil ?_ | refine then_normal ?_ | refine then_ret ?_ | refine WP_ret ?_ | refine WP_condT rfl ?_ | (refine g_move ?_; refine st_move rfl ?_) | (refine g_assign ?_; refine st_assign rfl ?_) | (refine g_b_eql ?_; refine st_val rfl (r_eqlNil rfl rfl) ?_))
    exact end1 rfl rfl ⟨_, rfl, S.below, NewRow.nil _ _ _ _⟩
  | some a0 =>
    repeat' (first | refine WP_seq ?_ | refine WP_region ?_ | refine wl_nil ?_ | refine then_normal ?_ | refine WP_skip ?_ | refine WP_condF rfl ?_ | (refine g_move ?_; refine st_move rfl ?_) | (refine g_assign ?_; refine st_assign rfl ?_) | (refine g_b_eql ?_; refine st_val rfl (r_eqlNil rfl rfl) ?_))
    refine st_valE rfl (r_lit0 (D := fGGrant) S) ?_
    rintro vn w ⟨-, S'⟩; replace S := S'; clear S'
    repeat' ((refine g_move ?_; refine st_move rfl ?_))
    refine st_valE rfl (r_appendRd (D := fGGrant) (i := 0) S rfl (hr.mono S.below) rfl rfl rfl (by decide) oneG (by simp; omega) (by simp; omega)) ?_
    rintro va' w ⟨-, S'⟩; replace S := S'; clear S'
    repeat' (first | refine wl_nil ?_ | refine then_normal ?_ | refine WP_ret ?_ | (refine g_assign ?_; refine st_assign rfl ?_))
    exact end1 rfl rfl ⟨_, rfl, S.below, S.row (i := 0) rfl⟩

def plG (g : GGrant) (p : Int) : GGrant := ⟨g.Item, g.Acts, g.Regions, p, g.Window⟩
/-- Grant i has p plays. -/
def setP (l : List GGrant) (i : Int) (p : Int) : List GGrant := l.set i.toNat (plG (nth l i) p)
theorem setP_length (l : List GGrant) (i p : Int) : (setP l i p).length = l.length := by simp [setP]
theorem nth_set {α : Type} [Inhabited α] (l : List α) (i : Int) (x : α) (h0 : 0 ≤ i) (h : i < l.length) (j : Int) (hj : 0 ≤ j) : nth (l.set i.toNat x) j = if j = i then x else nth l j := by
  unfold nth
  simp only [List.getD, List.getElem?_set]
  by_cases e : j = i
  · subst e; rw [if_pos rfl, if_pos rfl, if_pos (by omega)]; rfl
  · rw [if_neg (by omega), if_neg e]
theorem nth_setP (l : List GGrant) (i p : Int) (h0 : 0 ≤ i) (h : i < l.length) (j : Int) (hj : 0 ≤ j) : nth (setP l i p) j = if j = i then plG (nth l i) p else nth l j := nth_set l i _ h0 h j hj
theorem permG_pl (g : GGrant) (p : Int) (u : GUse) : permG (plG g p) u = permG g u := rfl
theorem prmN_setP (l : List GGrant) (us : List GUse) (i p : Int) (h0 : 0 ≤ i) (h : i < l.length) : prmN (setP l i p) us = prmN l us := by
  funext k u
  unfold prmN
  rw [nth_setP l i p h0 h _ (by omega)]
  split
  · rename_i e; rw [permG_pl, e]
  · rfl
theorem plyN_setP (l : List GGrant) (i : Int) (h0 : 0 ≤ i) (h : i < l.length) : plyN (setP l i ((nth l i).Plays - 1)) = dec (plyN l) i.toNat := by
  funext k
  unfold plyN dec
  rw [nth_setP l i _ h0 h _ (by omega)]
  by_cases e : (k : Int) = i
  · subst e
    rw [if_pos rfl, if_pos (by omega)]
    show ((nth l (k : Int)).Plays - 1).toNat = (nth l (k : Int)).Plays.toNat - 1
    omega
  · rw [if_neg e, if_neg (by omega)]
theorem setP_back (l : List GGrant) (i p : Int) (h0 : 0 ≤ i) (h : i < l.length) : setP (setP l i p) i (nth l i).Plays = l := by
  unfold setP
  rw [List.set_set, nth_set l i _ h0 h i h0, if_pos rfl]
  have h' : i.toNat < l.length := by omega
  have : plG (plG (nth l i) p) (nth l i).Plays = nth l i := rfl
  rw [this]
  unfold nth
  simp [List.getD, List.getElem?_eq_getElem h']
theorem validG_set {l : List GGrant} {i p : Int} (hl : validG l = true) (h0 : 0 ≤ i) (h : i < l.length) (hp : 0 ≤ p) (hp1 : p ≤ 100) : validG (setP l i p) = true := by
  unfold validG at *
  rw [Bool.and_eq_true, List.all_eq_true] at *
  refine ⟨by rw [setP_length]; exact hl.1, fun g hg => ?_⟩
  rcases List.mem_or_eq_of_mem_set hg with hg | rfl
  · exact hl.2 g hg
  · have := hl.2 (nth l i) (nth_mem h0 h)
    unfold okG at *
    rw [decide_eq_true_eq] at *
    show _ ∧ _
    simp only [plG]
    omega
theorem validU_drop {us : List GUse} (h : validU us = true) (n : Nat) : validU (us.drop n) = true := by
  unfold validU at *
  rw [Bool.and_eq_true, List.all_eq_true] at *
  refine ⟨?_, fun g hg => h.2 g (List.mem_of_mem_drop hg)⟩
  have := h.1
  simp at this ⊢
  omega
theorem prmN_drop (l : List GGrant) (us : List GUse) (i : Int) (h0 : 0 ≤ i) : prmN l (us.drop (i + 1).toNat) = shift (prmN l (us.drop i.toNat)) := by
  funext k u
  unfold prmN shift
  congr 1
  unfold nth
  simp only [List.getD, List.getElem?_drop]
  congr 2
  omega
/-- What Assign answers: 80 is ErrRights. -/
def asnI (l : List GGrant) (us : List GUse) : List Int × Int := if validG l = true ∧ validU us = true ∧ asgL l us = true then (iz (greedy l.length us.length (prmN l us) (plyN l)), 0) else ([], 80)
theorem prm0 (l : List GGrant) (us : List GUse) {i k : Int} (h0 : 0 ≤ i) (hk : 0 ≤ k) : prmN l (us.drop i.toNat) k.toNat 0 = permG (nth l k) (nth us i) := by
  unfold prmN
  rw [Int.toNat_of_nonneg hk]
  congr 1
  unfold nth
  simp only [List.getD, List.getElem?_drop]
  congr 2
theorem asg_next {l left : List GGrant} {us : List GUse} {i k : Int} {n : Nat} (h0 : 0 ≤ i) (hk : 0 ≤ k) (hkl : k < left.length) (hll : left.length = l.length) (hn : us.length - (i + 1).toNat = n) :
    asgL (setP left k ((nth left k).Plays - 1)) (us.drop (i + 1).toNat) = A (shift (prmN left (us.drop i.toNat))) (dec (plyN left) k.toNat) l.length n := by
  unfold asgL
  rw [prmN_setP _ _ _ _ hk hkl, prmN_drop _ _ _ h0, plyN_setP _ _ hk hkl, setP_length, hll, List.length_drop, hn]
theorem isAssignable_is {l : List GGrant} {us : List GUse} {vl vu : Value} {b : Bool} {w0 : World} (hr : Rd fGGrant.ty w0 vl l) (hr2 : Rd fGUse.ty w0 vu us) (hl : validG l = true) (hu : validU us = true) (h : asgL l us = b) :
    CallsV Try.prog 38 #[vl, vu] w0 (.bool b) := by rw [← h]; exact isAssignable_spec hr hr2 hl hu
end Go.Proofs.Ytfdjnadopniaeaa
