import Derived.Test.YtcbidfedffegpaaFacts
import Derived.Test.YtcbidfedffegpaaGxJ3
import Derived.Test.YtcbidfedffegpaaGxKeep
import Derived.Test.YtcbidfedffegpaaGxOps3
import Derived.Test.YtcbidfedffegpaaGxRow
namespace Go.Proofs.Ytcbidfedffegpaa
open Go Go.Gx Go.RowKit
set_option linter.unusedVariables false
set_option linter.unusedSimpArgs false

theorem rb {a b : Bool} (h : a = b) : Ending.returned (.bool a) = Ending.returned (.bool b) := by rw [h]
theorem ri {k : IntKind} {a b : Int} (h : a = b) : Ending.returned (.int k a) = Ending.returned (.int k b) := by rw [h]
/-- The first index at which p holds; -1 if there is none. -/
def idxF {α : Type} (p : α → Bool) (l : List α) : Int := match l.findIdx? p with | some i => i | none => -1

theorem idxF_hit {α : Type} {p : α → Bool} {l : List α} {i : Nat} {x : α} {z : Int} (h : ∀ j, j < i → ∀ x, l[j]? = some x → p x = false) (hx : l[i]? = some x) (hp : p x = true) (hz : z = i) : idxF p l = z := by
  have : l.findIdx? p = some i := by
    rw [List.findIdx?_eq_some_iff_getElem]
    obtain ⟨hlt, e⟩ := List.getElem?_eq_some_iff.1 hx
    exact ⟨hlt, by rw [e]; exact hp, fun j hj => by rw [h j hj _ (List.getElem?_eq_getElem (by omega))]; decide⟩
  simp [idxF, this, hz]
theorem idxF_none {α : Type} {p : α → Bool} {l : List α} (h : ∀ x ∈ l, p x = false) : idxF p l = -1 := by
  have : l.findIdx? p = none := by rw [List.findIdx?_eq_none_iff]; exact h
  simp [idxF, this]
theorem idxF_any {α : Type} {p : α → Bool} {l : List α} : decide (0 ≤ idxF p l) = l.any p := by
  cases h : l.findIdx? p with
  | none =>
    have h' := List.findIdx?_eq_none_iff.1 h
    have : l.any p = false := by rw [List.any_eq_false]; intro x hx; simp [h' x hx]
    simp [idxF, h, this]
  | some i =>
    obtain ⟨hlt, hp, _⟩ := List.findIdx?_eq_some_iff_getElem.1 h
    have : l.any p = true := List.any_eq_true.2 ⟨_, List.getElem_mem hlt, hp⟩
    simp [idxF, h, this]


def pickI (c n : Int) : Int := (if c < 0 then -(c + 1) else c) % n
theorem pickI_range {c n : Int} (hn : 0 < n) : 0 ≤ pickI c n ∧ pickI c n < n := ⟨Int.emod_nonneg _ (by omega), Int.emod_lt_of_pos _ hn⟩
theorem pick_spec {c n : Int} {w : World} (hc0 : -9223372036854775808 ≤ c) (hc : c ≤ 9223372036854775807) (hn : 0 < n) : CallsV Try.prog 13 #[.int .i64 c, .int .i64 n] w (.int .i64 (pickI c n)) := by
  have S := St.start w
  refine CallsV.mk ?_
  refine calls_enter Try.func13 rfl (by intro _ h; first | exact nomatch h.1 | (obtain ⟨_, h, _⟩ := h; exact nomatch h)) Try.ntmps13 rfl ?_
  repeat' (first | refine WP_seq ?_ | refine WP_region ?_ | refine wl_nil ?_ | refine then_normal ?_ | refine WP_ret ?_ | refine WP_skip ?_ | (refine g_move ?_; refine st_move rfl ?_) | (refine g_assign ?_; refine st_assign rfl ?_) | (refine g_b_add ?_; (refine st_val rfl (r_addN rfl rfl ?_ ?_) ?_; (first | omega | (simp <;> omega)); (first | omega | (simp <;> omega)))) | (refine g_b_rem ?_; (refine st_val rfl (r_remN rfl rfl ?_ ?_) ?_; (first | omega | (simp <;> omega)); (first | omega | (simp <;> omega)))) | (refine g_b_lss ?_; refine st_val rfl (r_lss rfl rfl) ?_) | (refine g_un ?_; (refine st_val rfl (r_negN rfl ?_ ?_) ?_; (first | omega | (simp <;> omega)); (first | omega | (simp <;> omega)))) | (refine WP_cond rfl (fun h => ?_) (fun h => ?_) <;> (fail_if_success (have hh : true = true := h)) <;> (fail_if_success (have hh : false = false := h)) <;> (try simp only [decide_eq_true_eq, decide_eq_false_iff_not, Bool.not_eq_true', Bool.not_eq_false', Int.not_lt, Int.not_le] at h) <;> (try (exfalso; omega))))
  · exact end1 rfl rfl ⟨ri (by unfold pickI; rw [if_pos h]), S.below⟩
  · exact end1 rfl rfl ⟨ri (by unfold pickI; rw [if_neg (by omega)]), S.below⟩
theorem pick_is {c n x : Int} {w : World} (hx : pickI c n = x) (hc0 : -9223372036854775808 ≤ c) (hc : c ≤ 9223372036854775807) (hn : 0 < n) : CallsV Try.prog 13 #[.int .i64 c, .int .i64 n] w (.int .i64 x) := by
  rw [← hx]; exact pick_spec hc0 hc hn

theorem pickC_spec {c n : Int} {w : World} (hc0 : -9223372036854775808 ≤ c) (hc : c ≤ 9223372036854775807) (hn : 0 < n) : CallsV Try.prog 29 #[.int .i64 c, .int .i64 n] w (.int .i64 (pickI c n)) := by
  have S := St.start w
  refine CallsV.mk ?_
  refine calls_enter Try.func29 rfl (by intro _ h; first | exact nomatch h.1 | (obtain ⟨_, h, _⟩ := h; exact nomatch h)) Try.ntmps29 rfl ?_
  repeat' (first | refine WP_seq ?_ | refine WP_region ?_ | refine wl_nil ?_ | refine then_normal ?_ | refine WP_ret ?_ | refine WP_skip ?_ | (refine g_move ?_; refine st_move rfl ?_) | (refine g_assign ?_; refine st_assign rfl ?_) | (refine g_b_add ?_; (refine st_val rfl (r_addN rfl rfl ?_ ?_) ?_; (first | omega | (simp <;> omega)); (first | omega | (simp <;> omega)))) | (refine g_b_rem ?_; (refine st_val rfl (r_remN rfl rfl ?_ ?_) ?_; (first | omega | (simp <;> omega)); (first | omega | (simp <;> omega)))) | (refine g_b_lss ?_; refine st_val rfl (r_lss rfl rfl) ?_) | (refine g_un ?_; (refine st_val rfl (r_negN rfl ?_ ?_) ?_; (first | omega | (simp <;> omega)); (first | omega | (simp <;> omega)))) | (refine WP_cond rfl (fun h => ?_) (fun h => ?_) <;> (fail_if_success (have hh : true = true := h)) <;> (fail_if_success (have hh : false = false := h)) <;> (try simp only [decide_eq_true_eq, decide_eq_false_iff_not, Bool.not_eq_true', Bool.not_eq_false', Int.not_lt, Int.not_le] at h) <;> (try (exfalso; omega))))
  · exact end1 rfl rfl ⟨ri (by unfold pickI; rw [if_pos h]), S.below⟩
  · exact end1 rfl rfl ⟨ri (by unfold pickI; rw [if_neg (by omega)]), S.below⟩
theorem pickC_is {c n x : Int} {w : World} (hx : pickI c n = x) (hc0 : -9223372036854775808 ≤ c) (hc : c ≤ 9223372036854775807) (hn : 0 < n) : CallsV Try.prog 29 #[.int .i64 c, .int .i64 n] w (.int .i64 x) := by
  rw [← hx]; exact pickC_spec hc0 hc hn

def inR (n lo hi : Int) : Bool := decide (lo ≤ n ∧ n ≤ hi)
theorem within_spec {n lo hi : Int} {w : World} : CallsV Try.prog 30 #[.int .i64 n, .int .i64 lo, .int .i64 hi] w (.bool (inR n lo hi)) := by
  have S := St.start w
  refine CallsV.mk ?_
  refine calls_enter Try.func30 rfl (by intro _ h; first | exact nomatch h.1 | (obtain ⟨_, h, _⟩ := h; exact nomatch h)) Try.ntmps30 rfl ?_
  repeat' (first | refine WP_seq ?_ | refine WP_region ?_ | refine wl_nil ?_ | refine then_normal ?_ | refine WP_ret ?_ | (refine g_guard ?_; refine st_off rfl ?_) | (refine g_move ?_; refine st_move rfl ?_) | (refine g_assign ?_; refine st_assign rfl ?_) | (refine g_pick ?_; first | refine st_pickT rfl rfl ?_ | refine st_pickF rfl rfl ?_) | (refine g_b_leq ?_; refine st_val rfl (r_leq rfl rfl) ?_) | (refine wl_split rfl rfl (fun h => ?_) (fun h => ?_) <;> (fail_if_success (have hh : true = true := h)) <;> (fail_if_success (have hh : false = false := h)) <;> (try simp only [decide_eq_true_eq, decide_eq_false_iff_not, Bool.not_eq_true', Bool.not_eq_false', Int.not_lt, Int.not_le] at h) <;> (try (exfalso; omega))))
  all_goals (refine end1 rfl rfl ⟨rb ?_, S.below⟩; simp [inR]; try omega)
theorem in_spec {n lo hi : Int} {w : World} : CallsV Try.prog 31 #[.int .i64 n, .int .i64 lo, .int .i64 hi] w (.bool (inR n lo hi)) := by
  have S := St.start w
  refine CallsV.mk ?_
  refine calls_enter Try.func31 rfl (by intro _ h; first | exact nomatch h.1 | (obtain ⟨_, h, _⟩ := h; exact nomatch h)) Try.ntmps31 rfl ?_
  repeat' (first | refine WP_seq ?_ | refine WP_region ?_ | refine wl_nil ?_ | refine then_normal ?_ | refine WP_ret ?_ | (refine g_guard ?_; refine st_off rfl ?_) | (refine g_move ?_; refine st_move rfl ?_) | (refine g_assign ?_; refine st_assign rfl ?_) | (refine g_pick ?_; first | refine st_pickT rfl rfl ?_ | refine st_pickF rfl rfl ?_) | (refine g_b_leq ?_; refine st_val rfl (r_leq rfl rfl) ?_) | (refine g_b_geq ?_; refine st_val rfl (r_geq rfl rfl) ?_) | (refine wl_split rfl rfl (fun h => ?_) (fun h => ?_) <;> (fail_if_success (have hh : true = true := h)) <;> (fail_if_success (have hh : false = false := h)) <;> (try simp only [decide_eq_true_eq, decide_eq_false_iff_not, Bool.not_eq_true', Bool.not_eq_false', Int.not_lt, Int.not_le] at h) <;> (try (exfalso; omega))))
  all_goals (refine end1 rfl rfl ⟨rb ?_, S.below⟩; simp [inR]; try omega)
theorem within_is {n lo hi : Int} {b : Bool} {w : World} (h : inR n lo hi = b) : CallsV Try.prog 30 #[.int .i64 n, .int .i64 lo, .int .i64 hi] w (.bool b) := by rw [← h]; exact within_spec
theorem in_is {n lo hi : Int} {b : Bool} {w : World} (h : inR n lo hi = b) : CallsV Try.prog 31 #[.int .i64 n, .int .i64 lo, .int .i64 hi] w (.bool b) := by rw [← h]; exact in_spec
def cntI (n : Int) : Int := 2 + pickI n 4
theorem cntI_range (n : Int) : 2 ≤ cntI n ∧ cntI n ≤ 5 := by
  have := pickI_range (c := n) (n := 4) (by omega)
  unfold cntI; omega
theorem count_spec {n : Int} {w : World} (h0 : -9223372036854775808 ≤ n) (h1 : n ≤ 9223372036854775807) : CallsV Try.prog 12 #[.int .i64 n] w (.int .i64 (cntI n)) := by
  have S := St.start w
  have := pickI_range (c := n) (n := 4) (by omega)
  refine CallsV.mk ?_
  refine calls_enter Try.func12 rfl (by intro _ h; first | exact nomatch h.1 | (obtain ⟨_, h, _⟩ := h; exact nomatch h)) Try.ntmps12 rfl ?_
  repeat' (first | refine WP_seq ?_ | refine WP_region ?_ | refine wl_nil ?_ | refine then_normal ?_ | refine WP_ret ?_ | (refine g_move ?_; refine st_move rfl ?_) | (refine g_assign ?_; refine st_assign rfl ?_) | (refine g_b_add ?_; (refine st_val rfl (r_addN rfl rfl ?_ ?_) ?_; (first | omega | (simp <;> omega)); (first | omega | (simp <;> omega)))) | (refine g_callV ?_; (refine st_callV rfl (r_call2 rfl rfl rfl) (pickC_spec h0 h1 (by omega)) ?_; intro w hb; replace S := S.grow hb; clear hb)))
  exact end1 rfl rfl ⟨rfl, S.below⟩
end Go.Proofs.Ytcbidfedffegpaa
