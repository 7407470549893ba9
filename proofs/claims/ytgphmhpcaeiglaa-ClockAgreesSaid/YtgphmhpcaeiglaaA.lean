import Derived.Test.YtgphmhpcaeiglaaFacts
import Derived.Test.YtgphmhpcaeiglaaGxOps3
import Derived.Test.YtgphmhpcaeiglaaGxRow
namespace Go.Proofs.Ytgphmhpcaeiglaa
open Go Go.Gx Go.RowKit
set_option linter.unusedVariables false
set_option linter.unusedSimpArgs false

theorem rb {a b : Bool} (h : a = b) : Ending.returned (.bool a) = Ending.returned (.bool b) := by rw [h]
theorem ri {k : IntKind} {a b : Int} (h : a = b) : Ending.returned (.int k a) = Ending.returned (.int k b) := by rw [h]
/-- The first index at which p holds; -1 if there is none. -/
def idxF {α : Type} (p : α → Bool) (l : List α) : Int := match l.findIdx? p with | some i => i | none => -1

theorem idxF_hit {α : Type} {p : α → Bool} {l : List α} {i : Nat} {x : α} {z : Int} (h : ∀ j, j < i → ∀ x, l[j]? = some x → p x = false) (hx : l[i]? = some x) (hp : p x = true) (hz : z = i) : idxF p l = z := by
  have : l.findIdx? p = some i := by
    rw [List.findIdx?_eq_some_iff_getElem]
    obtain ⟨hlt, e⟩ := List.getElem?_eq_some_iff.1 hx
    exact ⟨hlt, by rw [e]; exact hp, fun j hj => by rw [h j hj _ (List.getElem?_eq_getElem (by omega))]; decide⟩
  simp [idxF, this, hz]
theorem idxF_none {α : Type} {p : α → Bool} {l : List α} (h : ∀ x ∈ l, p x = false) : idxF p l = -1 := by
  have : l.findIdx? p = none := by rw [List.findIdx?_eq_none_iff]; exact h
  simp [idxF, this]
theorem idxF_any {α : Type} {p : α → Bool} {l : List α} : decide (0 ≤ idxF p l) = l.any p := by
  cases h : l.findIdx? p with
  | none =>
    have h' := List.findIdx?_eq_none_iff.1 h
    have : l.any p = false := by rw [List.any_eq_false]; intro x hx; simp [h' x hx]
    simp [idxF, h, this]
  | some i =>
    obtain ⟨hlt, hp, _⟩ := List.findIdx?_eq_some_iff_getElem.1 h
    have : l.any p = true := List.any_eq_true.2 ⟨_, List.getElem_mem hlt, hp⟩
    simp [idxF, h, this]


theorem nan_spec {x : Int} {w : World} : CallsV Try.prog 43 #[.int .i64 x] w (.bool false) := by
  have S := St.start w
  refine CallsV.mk ?_
  refine calls_enter Try.func43 rfl Try.ntmps43 rfl ?_
  repeat' (first | refine WP_seq ?_ | refine WP_region ?_ | refine wl_nil ?_ | refine then_normal ?_ | refine WP_ret ?_ | (refine g_move ?_; refine st_move rfl ?_) | (refine g_assign ?_; refine st_assign rfl ?_) | (refine g_b_neq ?_; refine st_val rfl (r_neq rfl rfl) ?_))
  all_goals (refine end1 rfl rfl ⟨rb ?_, S.below⟩; simp)

def cmpI (a b : Int) : Int := if a < b then -1 else if b < a then 1 else 0
theorem cmp_spec {a b : Int} {w : World} : CallsV Try.prog 32 #[.int .i64 a, .int .i64 b] w (.int .i64 (cmpI a b)) := by
  have S := St.start w
  refine CallsV.mk ?_
  refine calls_enter Try.func32 rfl Try.ntmps32 rfl ?_
  repeat' (first | refine WP_seq ?_ | refine WP_region ?_ | refine wl_nil ?_ | refine then_normal ?_ | refine then_ret ?_ | refine WP_ret ?_ | refine WP_skip ?_ | refine WP_condF rfl ?_ | (refine g_move ?_; refine st_move rfl ?_) | (refine g_assign ?_; refine st_assign rfl ?_) | (refine g_b_lss ?_; refine st_val rfl (r_lss rfl rfl) ?_) | (refine g_b_gtr ?_; refine st_val rfl (r_gtr rfl rfl) ?_) | (refine g_callV ?_; (refine st_callV rfl (r_call1 rfl rfl) (nan_spec) ?_; intro w hb; replace S := S.grow hb; clear hb)) | (refine WP_cond rfl (fun h => ?_) (fun h => ?_) <;> (fail_if_success (have hh : true = true := h)) <;> (try simp only [decide_eq_true_eq, decide_eq_false_iff_not, Bool.not_eq_true', Bool.not_eq_false', Int.not_lt, Int.not_le] at h) <;> (try (exfalso; omega))))
  all_goals (refine end1 rfl rfl ⟨ri ?_, S.below⟩; unfold cmpI; (repeat' split) <;> omega)


theorem search_spec {g : FuncId} [Enters Try.prog g] {cl : List Value} {p : Int → Bool} {n r : Int} {w : World} (hn : n ≤ 1000000000) (h0 : 0 ≤ r) (h1 : r ≤ n)
    (hlo : ∀ j, 0 ≤ j → j < r → p j = false) (hhi : ∀ j, r ≤ j → j < n → p j = true)
    (hp : ∀ x w', Below w.heap.size w w' → 0 ≤ x → x < n → CallsV Try.prog g (.int .i64 x :: cl).toArray w' (.bool (p x))) :
    CallsV Try.prog 37 #[.int .i64 n, .func (.func g) #[] cl.toArray] w (.int .i64 r) := by
  have S := St.start w
  refine CallsV.mk ?_
  refine calls_enter Try.func37 rfl Try.ntmps37 rfl ?_
  repeat' (first | refine WP_seq ?_ | refine WP_region ?_ | refine wl_nil ?_ | refine then_normal ?_ | refine WP_block ?_ | (refine g_move ?_; refine st_move rfl ?_) | (refine g_assign ?_; refine st_assign rfl ?_))
  refine WP_loop (fun k σ w1 => ∃ i j : Int, Has σ [(0, .int .i64 n), (1, .func (.func g) #[] cl.toArray), (5, .int .i64 i), (6, .int .i64 j)] ∧ St w w1 [] ∧ 0 ≤ i ∧ i ≤ r ∧ r ≤ j ∧ j ≤ n ∧ k = (j - i).toNat) n.toNat ⟨0, n, ⟨rfl, rfl, rfl, rfl, trivial⟩, S, by omega, by omega, by omega, by omega, by omega⟩ ?_
  rintro k σ w1 ⟨i, j, hs, S, hi0, hi1, hj0, hj1, rfl⟩
  refine WP_has hs ?_
  repeat' (first | refine WP_seq ?_ | refine WP_region ?_ | refine wl_nil ?_ | refine then_normal ?_ | refine inB_normal ?_ | refine then_exit ?_ | refine inB_here ?_ | refine WP_ret ?_ | refine WP_skip ?_ | refine WP_exit ?_ | refine WP_block ?_ | (refine g_move ?_; refine st_move rfl ?_) | (refine g_assign ?_; refine st_assign rfl ?_) | (refine g_b_add ?_; (refine st_val rfl (r_addN rfl rfl ?_ ?_) ?_; (first | omega | (simp <;> omega)); (first | omega | (simp <;> omega)))) | (refine g_b_lss ?_; refine st_val rfl (r_lss rfl rfl) ?_) | (refine g_b_shr ?_; refine st_val rfl (r_shr1 rfl rfl) ?_) | (refine g_un ?_; refine st_val rfl (r_not rfl) ?_) | (refine g_convert ?_; first | (refine st_val rfl (r_convI rfl ?_ ?_) ?_; (first | omega | (simp <;> omega)); (first | omega | (simp <;> omega))) | (refine st_val rfl (r_convU rfl ?_ ?_) ?_; (first | omega | (simp <;> omega)); (first | omega | (simp <;> omega)))) | (refine g_callV ?_; (refine st_callV rfl (r_call1 rfl rfl) ((hp _ _ S.below (by omega) (by omega))) ?_; intro w hb; replace S := S.grow hb; clear hb)) | (refine WP_cond rfl (fun h => ?_) (fun h => ?_) <;> (fail_if_success (have hh : true = true := h)) <;> (try simp only [decide_eq_true_eq, decide_eq_false_iff_not, Bool.not_eq_true', Bool.not_eq_false', Int.not_lt, Int.not_le] at h) <;> (try (exfalso; omega))))
  · refine ⟨⟨_, ?_, (i + j) / 2 + 1, j, ⟨rfl, rfl, rfl, rfl, trivial⟩, S, by omega, ?_, by omega, by omega, rfl⟩⟩
    · omega
    · have : ¬ r ≤ (i + j) / 2 := fun hh => by rw [hhi _ hh (by omega)] at h; cases h
      omega
  · refine ⟨⟨_, ?_, i, (i + j) / 2, ⟨rfl, rfl, rfl, rfl, trivial⟩, S, by omega, by omega, ?_, by omega, rfl⟩⟩
    · omega
    · have : ¬ (i + j) / 2 < r := fun hh => by rw [hlo _ (by omega) hh] at h; cases h
      omega
  · refine end1 rfl rfl ⟨ri (by omega), S.below⟩

theorem cmpI_lt {a b : Int} : cmpI a b < 0 ↔ a < b := by unfold cmpI; (repeat' split) <;> omega
def pickI (c n : Int) : Int := (if c < 0 then -(c + 1) else c) % n
theorem pickI_range {c n : Int} (hn : 0 < n) : 0 ≤ pickI c n ∧ pickI c n < n := ⟨Int.emod_nonneg _ (by omega), Int.emod_lt_of_pos _ hn⟩
theorem pick_spec {c n : Int} {w : World} (hc0 : -9223372036854775808 ≤ c) (hc : c ≤ 9223372036854775807) (hn : 0 < n) : CallsV Try.prog 18 #[.int .i64 c, .int .i64 n] w (.int .i64 (pickI c n)) := by
  have S := St.start w
  refine CallsV.mk ?_
  refine calls_enter Try.func18 rfl Try.ntmps18 rfl ?_
  repeat' (first | refine WP_seq ?_ | refine WP_region ?_ | refine wl_nil ?_ | refine then_normal ?_ | refine WP_ret ?_ | refine WP_skip ?_ | (refine g_move ?_; refine st_move rfl ?_) | (refine g_assign ?_; refine st_assign rfl ?_) | (refine g_b_add ?_; (refine st_val rfl (r_addN rfl rfl ?_ ?_) ?_; (first | omega | (simp <;> omega)); (first | omega | (simp <;> omega)))) | (refine g_b_rem ?_; (refine st_val rfl (r_remN rfl rfl ?_ ?_) ?_; (first | omega | (simp <;> omega)); (first | omega | (simp <;> omega)))) | (refine g_b_lss ?_; refine st_val rfl (r_lss rfl rfl) ?_) | (refine g_un ?_; (refine st_val rfl (r_negN rfl ?_ ?_) ?_; (first | omega | (simp <;> omega)); (first | omega | (simp <;> omega)))) | (refine WP_cond rfl (fun h => ?_) (fun h => ?_) <;> (fail_if_success (have hh : true = true := h)) <;> (try simp only [decide_eq_true_eq, decide_eq_false_iff_not, Bool.not_eq_true', Bool.not_eq_false', Int.not_lt, Int.not_le] at h) <;> (try (exfalso; omega))))
  · exact end1 rfl rfl ⟨ri (by unfold pickI; rw [if_pos h]), S.below⟩
  · exact end1 rfl rfl ⟨ri (by unfold pickI; rw [if_neg (by omega)]), S.below⟩
theorem pick_is {c n x : Int} {w : World} (hx : pickI c n = x) (hc0 : -9223372036854775808 ≤ c) (hc : c ≤ 9223372036854775807) (hn : 0 < n) : CallsV Try.prog 18 #[.int .i64 c, .int .i64 n] w (.int .i64 x) := by
  rw [← hx]; exact pick_spec hc0 hc hn

theorem pickC_spec {c n : Int} {w : World} (hc0 : -9223372036854775808 ≤ c) (hc : c ≤ 9223372036854775807) (hn : 0 < n) : CallsV Try.prog 34 #[.int .i64 c, .int .i64 n] w (.int .i64 (pickI c n)) := by
  have S := St.start w
  refine CallsV.mk ?_
  refine calls_enter Try.func34 rfl Try.ntmps34 rfl ?_
  repeat' (first | refine WP_seq ?_ | refine WP_region ?_ | refine wl_nil ?_ | refine then_normal ?_ | refine WP_ret ?_ | refine WP_skip ?_ | (refine g_move ?_; refine st_move rfl ?_) | (refine g_assign ?_; refine st_assign rfl ?_) | (refine g_b_add ?_; (refine st_val rfl (r_addN rfl rfl ?_ ?_) ?_; (first | omega | (simp <;> omega)); (first | omega | (simp <;> omega)))) | (refine g_b_rem ?_; (refine st_val rfl (r_remN rfl rfl ?_ ?_) ?_; (first | omega | (simp <;> omega)); (first | omega | (simp <;> omega)))) | (refine g_b_lss ?_; refine st_val rfl (r_lss rfl rfl) ?_) | (refine g_un ?_; (refine st_val rfl (r_negN rfl ?_ ?_) ?_; (first | omega | (simp <;> omega)); (first | omega | (simp <;> omega)))) | (refine WP_cond rfl (fun h => ?_) (fun h => ?_) <;> (fail_if_success (have hh : true = true := h)) <;> (try simp only [decide_eq_true_eq, decide_eq_false_iff_not, Bool.not_eq_true', Bool.not_eq_false', Int.not_lt, Int.not_le] at h) <;> (try (exfalso; omega))))
  · exact end1 rfl rfl ⟨ri (by unfold pickI; rw [if_pos h]), S.below⟩
  · exact end1 rfl rfl ⟨ri (by unfold pickI; rw [if_neg (by omega)]), S.below⟩
theorem pickC_is {c n x : Int} {w : World} (hx : pickI c n = x) (hc0 : -9223372036854775808 ≤ c) (hc : c ≤ 9223372036854775807) (hn : 0 < n) : CallsV Try.prog 34 #[.int .i64 c, .int .i64 n] w (.int .i64 x) := by
  rw [← hx]; exact pickC_spec hc0 hc hn

theorem rt2 {k k' : IntKind} {a b c d : Int} (h : a = b) (h' : c = d) : Ending.returned (.tuple #[.int k a, .int k' c]) = Ending.returned (.tuple #[.int k b, .int k' d]) := by rw [h, h']
def leastS (d n : Int) : Int := if d < 0 ∨ 100 < d ∨ n < 0 ∨ 10000000 < n then 0 else if 0 < n then 1000 * (n - 1) / (1000 + d) + 1 else 0
def mostS (d n : Int) : Int := if d < 0 ∨ 100 < d ∨ n < 0 ∨ 10000000 < n then 0 else (1000 * (n + 1) - 1) / (1000 - d)
theorem spread_spec {d n : Int} {w : World} : CallsV Try.prog 10 #[.int .i64 d, .int .i64 n] w (.tuple #[.int .i64 (leastS d n), .int .i64 (mostS d n)]) := by
  have S := St.start w
  refine CallsV.mk ?_
  refine calls_enter Try.func10 rfl Try.ntmps10 rfl ?_
  have key : 0 ≤ d → d ≤ 100 → 0 ≤ n → n ≤ 10000000 → 0 < n → 0 ≤ 1000 * (n - 1) / (1000 + d) ∧ 1000 * (n - 1) / (1000 + d) ≤ 1000 * (n - 1) := by
    intro h1 h2 h3 h4 h5
    exact ⟨Int.ediv_nonneg (by omega) (by omega), Int.ediv_le_self _ (by omega)⟩
  have key2 : 0 ≤ d → d ≤ 100 → 0 ≤ n → n ≤ 10000000 → 0 ≤ (1000 * (n + 1) - 1) / (1000 - d) := by
    intro h1 h2 h3 h4
    exact Int.ediv_nonneg (by omega) (by omega)
  repeat' (first | refine WP_seq ?_ | refine WP_region ?_ | refine wl_nil ?_ | refine then_normal ?_ | refine then_ret ?_ | refine WP_ret ?_ | refine WP_skip ?_ | refine WP_condT rfl ?_ | refine WP_draw (by kernel_rfl) (by kernel_rfl) ?_ | (refine ql_nil ?_; intro w hb; replace S := S.grow hb; clear hb) | (refine g_guard ?_; refine st_off rfl ?_) | (refine g_move ?_; refine st_move rfl ?_) | (refine g_assign ?_; refine st_assign rfl ?_) | (refine g_pick ?_; first | refine st_pickT rfl rfl ?_ | refine st_pickF rfl rfl ?_) | (refine g_b_add ?_; (refine st_val rfl (r_addN rfl rfl ?_ ?_) ?_; (first | omega | (simp <;> omega)); (first | omega | (simp <;> omega)))) | (refine g_b_sub ?_; (refine st_val rfl (r_subN rfl rfl ?_ ?_) ?_; (first | omega | (simp <;> omega)); (first | omega | (simp <;> omega)))) | (refine g_b_mul ?_; (refine st_val rfl (r_mulN rfl rfl ?_ ?_) ?_; (first | omega | (simp <;> omega)); (first | omega | (simp <;> omega)))) | (refine g_b_quo ?_; (refine st_val rfl (r_quoN rfl rfl ?_ ?_ ?_) ?_; (first | omega | (simp <;> omega)); (first | omega | (simp <;> omega)); (first | omega | (simp <;> omega)))) | (refine g_b_lss ?_; refine st_val rfl (r_lss rfl rfl) ?_) | (refine g_b_gtr ?_; refine st_val rfl (r_gtr rfl rfl) ?_) | (refine gq_move ?_; refine q_move rfl ?_) | (refine gq_assign ?_; refine q_assign rfl ?_) | (refine gq_b_add ?_; (refine q_val rfl (fun w' hb => r_addN rfl rfl ?_ ?_) ?_; (first | omega | (simp <;> omega)); (first | omega | (simp <;> omega)))) | (refine gq_b_sub ?_; (refine q_val rfl (fun w' hb => r_subN rfl rfl ?_ ?_) ?_; (first | omega | (simp <;> omega)); (first | omega | (simp <;> omega)))) | (refine gq_b_mul ?_; (refine q_val rfl (fun w' hb => r_mulN rfl rfl ?_ ?_) ?_; (first | omega | (simp <;> omega)); (first | omega | (simp <;> omega)))) | (refine gq_b_quo ?_; (refine q_val rfl (fun w' hb => r_quoN rfl rfl ?_ ?_ ?_) ?_; (first | omega | (simp <;> omega)); (first | omega | (simp <;> omega)); (first | omega | (simp <;> omega)))) | (refine wl_split rfl rfl (fun h => ?_) (fun h => ?_) <;> (fail_if_success (have hh : true = true := h)) <;> (try simp only [decide_eq_true_eq, decide_eq_false_iff_not, Bool.not_eq_true', Bool.not_eq_false', Int.not_lt, Int.not_le] at h) <;> (try (exfalso; omega))) | (refine WP_cond rfl (fun h => ?_) (fun h => ?_) <;> (fail_if_success (have hh : true = true := h)) <;> (try simp only [decide_eq_true_eq, decide_eq_false_iff_not, Bool.not_eq_true', Bool.not_eq_false', Int.not_lt, Int.not_le] at h) <;> (try (exfalso; omega))))
  all_goals (refine end2 (v := .int .i64 _) (v2 := .int .i64 _) rfl rfl rfl ⟨rt2 ?_ ?_, S.below⟩)
  all_goals (first | unfold leastS | unfold mostS)
  all_goals ((repeat' split) <;> first | rfl | omega)
theorem div_anti {X d d' : Int} (hX : 0 ≤ X) (hd : 0 < d) (h : d ≤ d') : X / d' ≤ X / d := by
  rw [Int.le_ediv_iff_mul_le hd]
  have h1 : 0 ≤ X / d' := Int.ediv_nonneg hX (by omega)
  have h2 : X / d' * d ≤ X / d' * d' := Int.mul_le_mul_of_nonneg_left h h1
  have h3 : X / d' * d' ≤ X := Int.ediv_mul_le X (by omega)
  omega
def fitsI (d a n : Int) : Bool := decide ((1000 - d) * a - 1000 < 1000 * n) && decide (1000 * n < (1000 + d) * a + 1000)
theorem fits_spec {d a n : Int} {w : World} (d0 : 0 ≤ d) (d1 : d ≤ 100) (a0 : 0 ≤ a) (a1 : a ≤ 20000000) (n0 : 0 ≤ n) (n1 : n ≤ 10000000) :
    CallsV Try.prog 29 #[.int .i64 d, .int .i64 a, .int .i64 n] w (.bool (fitsI d a n)) := by
  have S := St.start w
  have b1 : 0 ≤ (1000 - d) * a := Int.mul_nonneg (by omega) a0
  have b2 : (1000 - d) * a ≤ 1000 * 20000000 := Int.mul_le_mul (by omega) a1 a0 (by omega)
  have b3 : 0 ≤ (1000 + d) * a := Int.mul_nonneg (by omega) a0
  have b4 : (1000 + d) * a ≤ 1100 * 20000000 := Int.mul_le_mul (by omega) a1 a0 (by omega)
  refine CallsV.mk ?_
  refine calls_enter Try.func29 rfl Try.ntmps29 rfl ?_
  repeat' (first | refine WP_seq ?_ | refine WP_region ?_ | refine wl_nil ?_ | refine then_normal ?_ | refine WP_ret ?_ | (refine g_guard ?_; refine st_off rfl ?_) | (refine g_move ?_; refine st_move rfl ?_) | (refine g_assign ?_; refine st_assign rfl ?_) | (refine g_pick ?_; first | refine st_pickT rfl rfl ?_ | refine st_pickF rfl rfl ?_) | (refine g_b_add ?_; (refine st_val rfl (r_addN rfl rfl ?_ ?_) ?_; (first | omega | (simp <;> omega)); (first | omega | (simp <;> omega)))) | (refine g_b_sub ?_; (refine st_val rfl (r_subN rfl rfl ?_ ?_) ?_; (first | omega | (simp <;> omega)); (first | omega | (simp <;> omega)))) | (refine g_b_mul ?_; (refine st_val rfl (r_mulN rfl rfl ?_ ?_) ?_; (first | omega | (simp <;> omega)); (first | omega | (simp <;> omega)))) | (refine g_b_lss ?_; refine st_val rfl (r_lss rfl rfl) ?_) | (refine wl_split rfl rfl (fun h => ?_) (fun h => ?_) <;> (fail_if_success (have hh : true = true := h)) <;> (try simp only [decide_eq_true_eq, decide_eq_false_iff_not, Bool.not_eq_true', Bool.not_eq_false', Int.not_lt, Int.not_le] at h) <;> (try (exfalso; omega))))
  all_goals (refine end1 rfl rfl ⟨rb ?_, S.below⟩; unfold fitsI)
  · rw [decide_eq_true h, Bool.true_and]
  · rw [decide_eq_false (by omega), Bool.false_and]
theorem fitsI_iff {d a n : Int} (d0 : 0 ≤ d) (d1 : d ≤ 100) (a0 : 0 ≤ a) (n0 : 0 ≤ n) (n1 : n ≤ 10000000) : fitsI d a n = true ↔ leastS d n ≤ a ∧ a ≤ mostS d n := by
  unfold fitsI leastS mostS
  have hb : ¬ (d < 0 ∨ 100 < d ∨ n < 0 ∨ 10000000 < n) := by omega
  rw [if_neg hb, if_neg hb, Bool.and_eq_true, decide_eq_true_eq, decide_eq_true_eq, Int.le_ediv_iff_mul_le (by omega)]
  have e1 : a * (1000 - d) = (1000 - d) * a := Int.mul_comm _ _
  rw [e1]
  split
  · rename_i hn
    have e2 : 1000 * (n - 1) / (1000 + d) + 1 ≤ a ↔ 1000 * (n - 1) < a * (1000 + d) := by
      rw [← Int.ediv_lt_iff_lt_mul (by omega)]; omega
    rw [e2, Int.mul_comm a (1000 + d)]
    omega
  · have : 0 ≤ (1000 + d) * a := Int.mul_nonneg (by omega) a0
    omega
theorem least_most {d n : Int} (d0 : 0 ≤ d) (d1 : d ≤ 100) (n0 : 0 ≤ n) (n1 : n ≤ 10000000) : 0 ≤ leastS d n ∧ leastS d n ≤ n ∧ n ≤ mostS d n ∧ mostS d n ≤ 12000000 := by
  have hq := Int.ediv_nonneg (a := 1000 * (n + 1) - 1) (b := 1000 - d) (by omega) (by omega)
  have hb : ¬ (d < 0 ∨ 100 < d ∨ n < 0 ∨ 10000000 < n) := by omega
  unfold leastS mostS
  rw [if_neg hb, if_neg hb]
  have m1 : n ≤ (1000 * (n + 1) - 1) / (1000 - d) := by
    rw [Int.le_ediv_iff_mul_le (by omega), Int.mul_sub]
    have := Int.mul_nonneg n0 d0
    omega
  have m2 : (1000 * (n + 1) - 1) / (1000 - d) ≤ (1000 * (n + 1) - 1) / 900 := div_anti (by omega) (by omega) (by omega)
  split
  · have l1 := Int.ediv_nonneg (a := 1000 * (n - 1)) (b := 1000 + d) (by omega) (by omega)
    have l2 : 1000 * (n - 1) / (1000 + d) ≤ 1000 * (n - 1) / 1000 := div_anti (by omega) (by omega) (by omega)
    omega
  · omega
theorem fits_is {d a n : Int} {b : Bool} {w : World} (h : fitsI d a n = b) (d0 : 0 ≤ d) (d1 : d ≤ 100) (a0 : 0 ≤ a) (a1 : a ≤ 20000000) (n0 : 0 ≤ n) (n1 : n ≤ 10000000) :
    CallsV Try.prog 29 #[.int .i64 d, .int .i64 a, .int .i64 n] w (.bool b) := by rw [← h]; exact fits_spec d0 d1 a0 a1 n0 n1
theorem spreadR_spec {d n : Int} {w0 : World} : CallsV Try.prog 11 #[.int .i64 d, .int .i64 n] w0 (.tuple #[.int .i64 (leastS d n), .int .i64 (mostS d n)]) := by
  have S := St.start w0
  refine CallsV.mk ?_
  refine calls_enter Try.func11 rfl Try.ntmps11 rfl ?_
  by_cases hr : 0 ≤ d ∧ d ≤ 100 ∧ 0 ≤ n ∧ n ≤ 10000000
  · obtain ⟨d0, d1, n0, n1⟩ := hr
    obtain ⟨lm0, lm1, lm2, lm3⟩ := least_most d0 d1 n0 n1
    have hfit := fun a (a0 : 0 ≤ a) => fitsI_iff (d := d) (a := a) (n := n) d0 d1 a0 n0 n1
    obtain ⟨q, hq, hq0⟩ : ∃ q : Int, IntKind.i64.wrap ((1000 * (n - 1)).tdiv (1000 + d)) = q ∧ q - 1 ≤ leastS d n ∧ -2 ≤ q := by
      refine ⟨_, rfl, ?_⟩
      rw [IntKind.wrap_i64]
      by_cases hn : 0 < n
      · rw [Int.tdiv_eq_ediv_of_nonneg (by omega)]
        unfold leastS at lm0 lm1 ⊢
        rw [if_neg (by omega), if_pos hn] at *
        omega
      · obtain rfl : n = 0 := by omega
        have e : (1000 * ((0 : Int) - 1)).tdiv (1000 + d) = -((1000 : Int) / (1000 + d)) := by
          rw [show 1000 * ((0 : Int) - 1) = -1000 by rfl, Int.neg_tdiv, Int.tdiv_eq_ediv_of_nonneg (by omega)]
        have e2 := Int.ediv_nonneg (a := 1000) (b := 1000 + d) (by omega) (by omega)
        have e3 : (1000 : Int) / (1000 + d) ≤ 1000 / 1000 := div_anti (by omega) (by omega) (by omega)
        rw [e]
        omega
    repeat' (first | refine WP_seq ?_ | refine WP_region ?_ | refine wl_nil ?_ | refine then_normal ?_ | refine WP_skip ?_ | refine WP_block ?_ | (refine g_move ?_; refine st_move rfl ?_) | (refine g_assign ?_; refine st_assign rfl ?_) | (refine g_pick ?_; refine st_pickF rfl rfl ?_) | (refine g_b_add ?_; (refine st_val rfl (r_addN rfl rfl ?_ ?_) ?_; (first | omega | (simp <;> omega)); (first | omega | (simp <;> omega)))) | (refine g_b_sub ?_; (refine st_val rfl (r_subN rfl rfl ?_ ?_) ?_; (first | omega | (simp <;> omega)); (first | omega | (simp <;> omega)))) | (refine g_b_mul ?_; (refine st_val rfl (r_mulN rfl rfl ?_ ?_) ?_; (first | omega | (simp <;> omega)); (first | omega | (simp <;> omega)))) | (refine g_b_quo ?_; (refine st_val rfl (r_quo rfl rfl ?_) ?_; (first | omega | (simp <;> omega)))) | (refine g_b_lss ?_; refine st_val rfl (r_lss rfl rfl) ?_) | (refine g_b_gtr ?_; refine st_val rfl (r_gtr rfl rfl) ?_) | (refine g_c_max ?_; refine st_val rfl (r_max2 rfl rfl) ?_) | (refine wl_split rfl rfl (fun h => ?_) (fun h => ?_) <;> (fail_if_success (have hh : true = true := h)) <;> (try simp only [decide_eq_true_eq, decide_eq_false_iff_not, Bool.not_eq_true', Bool.not_eq_false', Int.not_lt, Int.not_le] at h) <;> (try (exfalso; omega))) | (refine WP_cond rfl (fun h => ?_) (fun h => ?_) <;> (fail_if_success (have hh : true = true := h)) <;> (try simp only [decide_eq_true_eq, decide_eq_false_iff_not, Bool.not_eq_true', Bool.not_eq_false', Int.not_lt, Int.not_le] at h) <;> (try (exfalso; omega))))
    refine WP_loop (fun k σ w1 => ∃ a : Int, Has σ [(0, .int .i64 d), (1, .int .i64 n), (6, .int .i64 a)] ∧ St w0 w1 [] ∧ 0 ≤ a ∧ a ≤ leastS d n ∧ k = (leastS d n - a).toNat) _ ⟨_, ⟨rfl, rfl, rfl, trivial⟩, S, by omega, by omega, rfl⟩ ?_
    rintro k σ w1 ⟨a, hs', S, a0, a1, rfl⟩
    refine WP_has hs' ?_
    by_cases ha : a < leastS d n
    · have hf : fitsI d a n = false := by rw [← Bool.not_eq_true, hfit a a0]; omega
      repeat' (first | refine WP_seq ?_ | refine WP_region ?_ | refine wl_nil ?_ | refine then_normal ?_ | refine inB_normal ?_ | refine WP_skip ?_ | refine WP_block ?_ | refine WP_condT rfl ?_ | (refine g_move ?_; refine st_move rfl ?_) | (refine g_assign ?_; refine st_assign rfl ?_) | (refine g_b_add ?_; (refine st_val rfl (r_addN rfl rfl ?_ ?_) ?_; (first | omega | (simp <;> omega)); (first | omega | (simp <;> omega)))) | (refine g_un ?_; refine st_val rfl (r_not rfl) ?_) | (refine g_callV ?_; (refine st_callV rfl (r_call3 rfl rfl rfl rfl) (fits_is hf d0 d1 a0 (by omega) n0 n1) ?_; intro w hb; replace S := S.grow hb; clear hb)))
      refine ⟨⟨_, ?_, a + 1, ⟨rfl, rfl, rfl, trivial⟩, S, by omega, by omega, rfl⟩⟩
      omega
    · have hf : fitsI d a n = true := by rw [hfit a a0]; omega
      obtain rfl : a = leastS d n := by omega
      obtain ⟨m0, hm, hm0⟩ : ∃ m0 : Int, 1000 * n / (1000 - d) = m0 ∧ 0 ≤ m0 ∧ m0 - 1 ≤ mostS d n := by
        refine ⟨_, rfl, Int.ediv_nonneg (by omega) (by omega), ?_⟩
        have hb : ¬ (d < 0 ∨ 100 < d ∨ n < 0 ∨ 10000000 < n) := by omega
        unfold mostS
        rw [if_neg hb]
        have := Int.ediv_le_ediv (a := 1000 * n) (b := 1000 * (n + 1) - 1) (c := 1000 - d) (by omega) (by omega)
        omega
      repeat' (first | refine WP_seq ?_ | refine WP_region ?_ | refine wl_nil ?_ | refine then_normal ?_ | refine then_exit ?_ | refine inB_here ?_ | refine WP_exit ?_ | refine WP_block ?_ | refine WP_condF rfl ?_ | (refine g_move ?_; refine st_move rfl ?_) | (refine g_assign ?_; refine st_assign rfl ?_) | (refine g_b_sub ?_; (refine st_val rfl (r_subN rfl rfl ?_ ?_) ?_; (first | omega | (simp <;> omega)); (first | omega | (simp <;> omega)))) | (refine g_b_mul ?_; (refine st_val rfl (r_mulN rfl rfl ?_ ?_) ?_; (first | omega | (simp <;> omega)); (first | omega | (simp <;> omega)))) | (refine g_b_quo ?_; (refine st_val rfl (r_quoN rfl rfl ?_ ?_ ?_) ?_; (first | omega | (simp <;> omega)); (first | omega | (simp <;> omega)); (first | omega | (simp <;> omega)))) | (refine g_un ?_; refine st_val rfl (r_not rfl) ?_) | (refine g_c_max ?_; refine st_val rfl (r_max2 rfl rfl) ?_) | (refine g_callV ?_; (refine st_callV rfl (r_call3 rfl rfl rfl rfl) (fits_is hf d0 d1 a0 (by omega) n0 n1) ?_; intro w hb; replace S := S.grow hb; clear hb)))
      refine WP_loop (fun k σ w1 => ∃ b : Int, Has σ [(0, .int .i64 d), (1, .int .i64 n), (6, .int .i64 (leastS d n)), (7, .int .i64 b)] ∧ St w0 w1 [] ∧ leastS d n ≤ b ∧ b ≤ mostS d n ∧ k = (mostS d n - b).toNat) _ ⟨_, ⟨rfl, rfl, rfl, rfl, trivial⟩, S, by omega, by omega, rfl⟩ ?_
      clear hs' S
      rintro k σ w1 ⟨b, hs', S, b0, b1, rfl⟩
      refine WP_has hs' ?_
      by_cases hb : b < mostS d n
      · have hf2 : fitsI d (b + 1) n = true := by rw [hfit (b + 1) (by omega)]; omega
        repeat' (first | refine WP_seq ?_ | refine WP_region ?_ | refine wl_nil ?_ | refine then_normal ?_ | refine inB_normal ?_ | refine WP_skip ?_ | refine WP_block ?_ | refine WP_condT rfl ?_ | (refine g_move ?_; refine st_move rfl ?_) | (refine g_assign ?_; refine st_assign rfl ?_) | (refine g_b_add ?_; (refine st_val rfl (r_addN rfl rfl ?_ ?_) ?_; (first | omega | (simp <;> omega)); (first | omega | (simp <;> omega)))) | (refine g_callV ?_; (refine st_callV rfl (r_call3 rfl rfl rfl rfl) (fits_is hf2 d0 d1 (by omega) (by omega) n0 n1) ?_; intro w hb; replace S := S.grow hb; clear hb)))
        refine ⟨⟨_, ?_, b + 1, ⟨rfl, rfl, rfl, rfl, trivial⟩, S, by omega, by omega, rfl⟩⟩
        omega
      · have hf2 : fitsI d (b + 1) n = false := by rw [← Bool.not_eq_true, hfit (b + 1) (by omega)]; omega
        obtain rfl : b = mostS d n := by omega
        repeat' (first | refine WP_seq ?_ | refine WP_region ?_ | refine wl_nil ?_ | refine then_normal ?_ | refine then_exit ?_ | refine inB_here ?_ | refine WP_ret ?_ | refine WP_exit ?_ | refine WP_condF rfl ?_ | (refine g_move ?_; refine st_move rfl ?_) | (refine g_assign ?_; refine st_assign rfl ?_) | (refine g_b_add ?_; (refine st_val rfl (r_addN rfl rfl ?_ ?_) ?_; (first | omega | (simp <;> omega)); (first | omega | (simp <;> omega)))) | (refine g_callV ?_; (refine st_callV rfl (r_call3 rfl rfl rfl rfl) (fits_is hf2 d0 d1 (by omega) (by omega) n0 n1) ?_; intro w hb; replace S := S.grow hb; clear hb)))
        exact end2 (v := .int .i64 _) (v2 := .int .i64 _) rfl rfl rfl ⟨rfl, S.below⟩
  · repeat' (first | refine WP_seq ?_ | refine WP_region ?_ | refine wl_nil ?_ | refine then_normal ?_ | refine then_ret ?_ | refine WP_ret ?_ | refine WP_condT rfl ?_ | (refine g_guard ?_; refine st_off rfl ?_) | (refine g_move ?_; refine st_move rfl ?_) | (refine g_assign ?_; refine st_assign rfl ?_) | (refine g_pick ?_; first | refine st_pickT rfl rfl ?_ | refine st_pickF rfl rfl ?_) | (refine g_b_lss ?_; refine st_val rfl (r_lss rfl rfl) ?_) | (refine g_b_gtr ?_; refine st_val rfl (r_gtr rfl rfl) ?_) | (refine wl_split rfl rfl (fun h => ?_) (fun h => ?_) <;> (fail_if_success (have hh : true = true := h)) <;> (try simp only [decide_eq_true_eq, decide_eq_false_iff_not, Bool.not_eq_true', Bool.not_eq_false', Int.not_lt, Int.not_le] at h) <;> (try (exfalso; omega))) | (refine WP_cond rfl (fun h => ?_) (fun h => ?_) <;> (fail_if_success (have hh : true = true := h)) <;> (try simp only [decide_eq_true_eq, decide_eq_false_iff_not, Bool.not_eq_true', Bool.not_eq_false', Int.not_lt, Int.not_le] at h) <;> (try (exfalso; omega))))
    all_goals (refine end2 (v := .int .i64 _) (v2 := .int .i64 _) rfl rfl rfl ⟨rt2 ?_ ?_, S.below⟩)
    all_goals (first | unfold leastS | unfold mostS)
    all_goals ((repeat' split) <;> first | rfl | omega)
end Go.Proofs.Ytgphmhpcaeiglaa
