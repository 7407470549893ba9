import Derived.Test.YteplelijhkmbkaaDoorFacts
import Derived.Test.YteplelijhkmbkaaDoorGxJ3
import Derived.Test.YteplelijhkmbkaaDoorGxKeep
import Derived.Test.YteplelijhkmbkaaDoorGxOps3
import Derived.Test.YteplelijhkmbkaaDoorGxRow
import Derived.Test.YteplelijhkmbkaaDoorGxPerm
namespace Go.Proofs.YteplelijhkmbkaaDoor
open Go Go.Gx Go.RowKit
set_option linter.unusedVariables false
set_option linter.unusedSimpArgs false

theorem rb {a b : Bool} (h : a = b) : Ending.returned (.bool a) = Ending.returned (.bool b) := by rw [h]
theorem ri {k : IntKind} {a b : Int} (h : a = b) : Ending.returned (.int k a) = Ending.returned (.int k b) := by rw [h]
/-- The first index at which p holds; -1 if there is none. -/
def idxF {α : Type} (p : α → Bool) (l : List α) : Int := match l.findIdx? p with | some i => i | none => -1

theorem idxF_hit {α : Type} {p : α → Bool} {l : List α} {i : Nat} {x : α} {z : Int} (h : ∀ j, j < i → ∀ x, l[j]? = some x → p x = false) (hx : l[i]? = some x) (hp : p x = true) (hz : z = i) : idxF p l = z := by
  have : l.findIdx? p = some i := by
    rw [List.findIdx?_eq_some_iff_getElem]
    obtain ⟨hlt, e⟩ := List.getElem?_eq_some_iff.1 hx
    exact ⟨hlt, by rw [e]; exact hp, fun j hj => by rw [h j hj _ (List.getElem?_eq_getElem (by omega))]; decide⟩
  simp [idxF, this, hz]
theorem idxF_none {α : Type} {p : α → Bool} {l : List α} (h : ∀ x ∈ l, p x = false) : idxF p l = -1 := by
  have : l.findIdx? p = none := by rw [List.findIdx?_eq_none_iff]; exact h
  simp [idxF, this]
theorem idxF_any {α : Type} {p : α → Bool} {l : List α} : decide (0 ≤ idxF p l) = l.any p := by
  cases h : l.findIdx? p with
  | none =>
    have h' := List.findIdx?_eq_none_iff.1 h
    have : l.any p = false := by rw [List.any_eq_false]; intro x hx; simp [h' x hx]
    simp [idxF, h, this]
  | some i =>
    obtain ⟨hlt, hp, _⟩ := List.findIdx?_eq_some_iff_getElem.1 h
    have : l.any p = true := List.any_eq_true.2 ⟨_, List.getElem_mem hlt, hp⟩
    simp [idxF, h, this]


/-- The comparison of two numbers, as -1, 0 or 1. -/
def cmp1 (x y : Int) : Int := if x < y then -1 else if y < x then 1 else 0
def orI (a b : Int) : Int := if a = 0 then b else a
/-- The comparison of two spots by their numbers. -/
def cmpS (sp : List GSpot) (x y : Int) : Int := orI (cmp1 (nth sp x).At (nth sp y).At) (cmp1 (nth sp x).Contract (nth sp y).Contract)
theorem nan_spec {x : Int} {w : World} : CallsV Tryd.prog 59 #[.int .i64 x] w (.bool false) := by
  have S := St.start w
  refine CallsV.mk ?_
  refine calls_enter Tryd.func59 rfl (by intro _ h; first | exact nomatch h.1 | (obtain ⟨_, h, _⟩ := h; exact nomatch h)) Tryd.ntmps59 rfl ?_
  repeat' (first | refine WP_seq ?_ | refine WP_region ?_ | refine wl_nil ?_ | refine then_normal ?_ | refine WP_ret ?_ | (refine g_move ?_; refine st_move rfl ?_) | (refine g_assign ?_; refine st_assign rfl ?_) | (refine g_b_neq ?_; refine st_val rfl (r_neq rfl rfl) ?_))
  all_goals (refine end1 rfl rfl ⟨rb ?_, S.below⟩; simp)
theorem cmp1_spec {x y : Int} {w : World} : CallsV Tryd.prog 53 #[.int .i64 x, .int .i64 y] w (.int .i64 (cmp1 x y)) := by
  have S := St.start w
  refine CallsV.mk ?_
  refine calls_enter Tryd.func53 rfl (by intro _ h; first | exact nomatch h.1 | (obtain ⟨_, h, _⟩ := h; exact nomatch h)) Tryd.ntmps53 rfl ?_
  repeat' (first | refine WP_seq ?_ | refine WP_region ?_ | refine wl_nil ?_ | refine then_normal ?_ | refine then_ret ?_ | refine WP_ret ?_ | refine WP_skip ?_ | refine WP_condF rfl ?_ | (refine g_move ?_; refine st_move rfl ?_) | (refine g_assign ?_; refine st_assign rfl ?_) | (refine g_b_lss ?_; refine st_val rfl (r_lss rfl rfl) ?_) | (refine g_b_gtr ?_; refine st_val rfl (r_gtr rfl rfl) ?_) | (refine g_callV ?_; (refine st_callV rfl (r_call1 rfl rfl) (nan_spec) ?_; intro w hb; replace S := S.grow hb; clear hb)) | (refine WP_cond rfl (fun h => ?_) (fun h => ?_) <;> (fail_if_success (have hh : true = true := h)) <;> (fail_if_success (have hh : false = false := h)) <;> (try simp only [decide_eq_true_eq, decide_eq_false_iff_not, Bool.not_eq_true', Bool.not_eq_false', Int.not_lt, Int.not_le] at h) <;> (try (exfalso; omega))))
  all_goals (refine end1 rfl rfl ⟨ri ?_, S.below⟩; unfold cmp1; (repeat' split) <;> omega)
theorem orI_spec {a b : Int} {v : Value} {w : World} (hr : Rd (fInt .i64).ty w v [a, b]) : CallsV Tryd.prog 52 #[v] w (.int .i64 (orI a b)) := by
  have S := St.start w
  obtain ⟨A, c, rfl⟩ := hr.len
  refine CallsV.mk ?_
  refine calls_enter Tryd.func52 rfl (by intro _ h; first | exact nomatch h.1 | (obtain ⟨_, h, _⟩ := h; exact nomatch h)) Tryd.ntmps52 rfl ?_
  repeat' (first | refine WP_seq ?_ | refine WP_region ?_ | refine wl_nil ?_ | refine then_normal ?_ | refine WP_block ?_ | (refine g_move ?_; refine st_move rfl ?_) | (refine g_assign ?_; refine st_assign rfl ?_) | (refine g_c_len ?_; refine st_val rfl (r_lenSlice rfl) ?_))
  refine WP_loop (fun k σ w1 => ∃ i : Int, Has σ [(3, .int .i64 0), (6, .slice A [a, b].length c), (7, .int .i64 [a, b].length), (8, .int .i64 i)] ∧ St w w1 [] ∧ 0 ≤ i ∧ i ≤ 2 ∧ (∀ j : Int, 0 ≤ j → j < i → nth [a, b] j = 0) ∧ k = 2 - i.toNat) 2 ⟨0, ⟨rfl, rfl, rfl, rfl, trivial⟩, S, by omega, by omega, fun j a b => by omega, by omega⟩ ?_
  clear S
  rintro k σ w1 ⟨i, hs, S, h0, h2, hz, rfl⟩
  refine WP_has hs ?_
  have hl2 : (([a, b] : List Int).length : Int) = 2 := rfl
  repeat' (first | refine WP_seq ?_ | refine WP_region ?_ | refine wl_nil ?_ | refine then_normal ?_ | refine inB_normal ?_ | refine then_exit ?_ | refine inB_here ?_ | refine then_ret ?_ | refine inB_ret ?_ | refine WP_ret ?_ | refine WP_skip ?_ | refine WP_exit ?_ | refine WP_block ?_ | (refine g_move ?_; refine st_move rfl ?_) | (refine g_assign ?_; refine st_assign rfl ?_) | (refine g_b_add ?_; (refine st_val rfl (r_addN rfl rfl ?_ ?_) ?_; (first | omega | (simp <;> omega)); (first | omega | (simp <;> omega)))) | (refine g_b_neq ?_; refine st_val rfl (r_neq rfl rfl) ?_) | (refine g_b_lss ?_; refine st_val rfl (r_lss rfl rfl) ?_) | (refine g_indexAddr ?_; (refine st_val rfl (r_indexAddr (hr.mono S.below) rfl rfl ?_ ?_) ?_; (first | omega | (simp <;> omega)); (first | omega | (simp <;> omega)))) | (refine g_load ?_; (refine st_val rfl (r_loadElem1 (hr.mono S.below) rfl ?_ ?_ rfl) ?_; (first | omega | (simp <;> omega)); (first | omega | (simp <;> omega)))) | (refine WP_cond rfl (fun h => ?_) (fun h => ?_) <;> (fail_if_success (have hh : true = true := h)) <;> (fail_if_success (have hh : false = false := h)) <;> (try simp only [decide_eq_true_eq, decide_eq_false_iff_not, Bool.not_eq_true', Bool.not_eq_false', Int.not_lt, Int.not_le] at h) <;> (try (exfalso; omega))))
  · refine end1 rfl rfl ⟨ri ?_, S.below⟩
    have hn : ¬ nth [a, b] i = 0 := by simpa using h
    rcases (show i = 0 ∨ i = 1 by omega) with rfl | rfl
    · show a = orI a b
      unfold orI; rw [if_neg (show ¬ a = 0 from hn)]
    · have e : a = 0 := hz 0 (by omega) (by omega)
      show b = orI a b
      unfold orI; rw [if_pos e]
  · have hn : nth [a, b] i = 0 := by simpa using h
    refine ⟨⟨_, ?_, i + 1, ⟨rfl, rfl, rfl, rfl, trivial⟩, S, by omega, by omega, fun j p q => ?_, rfl⟩⟩
    · omega
    · rcases (show j = i ∨ j < i by omega) with rfl | hj
      · exact hn
      · exact hz j p hj
  · refine end1 rfl rfl ⟨ri ?_, S.below⟩
    have e1 : a = 0 := hz 0 (by omega) (by omega)
    have e2 : b = 0 := hz 1 (by omega) (by omega)
    unfold orI; rw [if_pos e1]; exact e2.symm
theorem cmp_spec {sp : List GSpot} {sv : Value} {b : Nat} {x y : Int} {w0 : World} (hc : CellsAt w0 ⟨b, 0, none⟩ [sv]) (hr : Rd fGSpot.ty w0 sv sp) (hx : 0 ≤ x ∧ x < sp.length) (hy : 0 ≤ y ∧ y < sp.length) :
    CallsV Tryd.prog 51 #[.int .i64 x, .int .i64 y, .pointer (some ⟨b, 0, none⟩)] w0 (.int .i64 (cmpS sp x y)) := by
  have S := St.start w0
  obtain ⟨A, c, rfl⟩ := hr.len
  refine CallsV.mk ?_
  refine calls_enter Tryd.func51 rfl (by intro _ h; first | exact nomatch h.1 | (obtain ⟨_, h, _⟩ := h; exact nomatch h)) Tryd.ntmps51 rfl ?_
  repeat' (first | refine WP_seq ?_ | refine WP_region ?_ | refine wl_nil ?_ | refine then_normal ?_ | refine WP_drawTail 22 (by kernel_rfl) (by decide +kernel) ?_ | (refine ql_nil ?_; intro w hb; replace S := S.grow hb; clear hb) | (refine g_assign ?_; refine st_assign rfl ?_) | (refine gq_move ?_; refine q_move rfl ?_) | (refine gq_fieldAddr ?_; refine q_val rfl (fun w' hb => r_fieldAddr rfl) ?_) | (refine gq_indexAddr ?_; (refine q_val rfl (fun w' hb => r_indexAddr (hr.mono (S.grow hb).below) rfl rfl ?_ ?_) ?_; (first | omega | (simp <;> omega)); (first | omega | (simp <;> omega)))) | (refine gq_load ?_; first | refine q_val rfl (fun w' hb => r_loadAt (hc.mono (S.grow hb).below) rfl rfl) ?_ | (refine q_val rfl (fun w' hb => r_loadElem1 (hr.mono (S.grow hb).below) rfl ?_ ?_ rfl) ?_; (first | omega | (simp <;> omega)); (first | omega | (simp <;> omega))) | (refine q_val rfl (fun w' hb => r_loadElemF (hr.mono (S.grow hb).below) rfl ?_ ?_ rfl) ?_; (first | omega | (simp <;> omega)); (first | omega | (simp <;> omega)))) | (refine gq_callV ?_; refine q_callV rfl (fun w' hb => r_call2 rfl rfl rfl) (fun w' hb => cmp1_spec) ?_))
  refine st_valE rfl (r_litF (D := fInt .i64) [cmp1 (nth sp x).At (nth sp y).At, cmp1 (nth sp x).Contract (nth sp y).Contract] (fun x => .int .i64 x) S rfl rfl (fun _ => rfl) rfl (by decide) (by decide)) ?_
  rintro _ w ⟨bl, rfl, -, -, S'⟩
  replace S := S'; clear S'
  repeat' (first | refine wl_nil ?_ | refine then_normal ?_ | refine WP_ret ?_ | (refine g_assign ?_; refine st_assign rfl ?_) | (refine g_callV ?_; (refine st_callV rfl (r_call1 rfl rfl) ((orI_spec (S.rdRow (i := 0) rfl))) ?_; intro w hb; replace S := S.grow hb; clear hb)))
  exact end1 rfl rfl ⟨rfl, S.below⟩
end Go.Proofs.YteplelijhkmbkaaDoor
