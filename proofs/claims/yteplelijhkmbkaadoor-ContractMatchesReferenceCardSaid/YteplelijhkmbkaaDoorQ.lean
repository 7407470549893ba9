import Derived.Test.YteplelijhkmbkaaDoorP
import Derived.Test.YteplelijhkmbkaaDoorI
namespace Go.Proofs.YteplelijhkmbkaaDoor
open Go Go.Gx Go.RowKit
set_option linter.unusedVariables false
set_option linter.unusedSimpArgs false

theorem valid_is {v : Value} {l : List GContract} {b : Bool} {w0 : World} (h : validC l = b) (hr : Rd fGContract.ty w0 v l) (hl : l.length ≤ 1000000000) : CallsV Tryd.prog 15 #[v] w0 (.bool b) := by rw [← h]; exact valid_spec hr hl
theorem validSpots_is {v : Value} {l : List GSpot} {b : Bool} {w0 : World} (h : validP l = b) (hr : Rd fGSpot.ty w0 v l) (hl : l.length ≤ 1000000000) : CallsV Tryd.prog 19 #[v] w0 (.bool b) := by rw [← h]; exact validSpots_spec hr hl
theorem validP_len {sp : List GSpot} (h : validP sp = true) : sp.length ≤ 60 := of_decide_eq_true (Bool.and_eq_true_iff.1 h).1
theorem validP_at {sp : List GSpot} (h : validP sp = true) {x : GSpot} (hx : x ∈ sp) : 0 ≤ x.Contract ∧ x.Contract ≤ 99 ∧ 0 ≤ x.At ∧ x.At ≤ 9999999 := of_decide_eq_true (List.all_eq_true.1 (Bool.and_eq_true_iff.1 h).2 x hx)
theorem tab_id_take {n : Nat} {i : Int} (h0 : 0 ≤ i) (hi : i < n) : tab idf i.toNat ++ [i] = tab idf (i + 1).toNat := by
  rw [show (i + 1).toNat = i.toNat + 1 by omega]
  unfold tab
  rw [List.range_succ, List.map_append]
  congr 1
  simp only [List.map_cons, List.map_nil, idf, List.cons.injEq, and_true]; omega
theorem foldl_at {l : List GContract} {sp : List GSpot} {turn : List Int} {i : Int} (h0 : 0 ≤ i) (hi : i < turn.length) : outOf l sp (turn.take (i + 1).toNat) = stepO l sp (outOf l sp (turn.take i.toNat)) (nth turn i) := by
  rw [show (i + 1).toNat = i.toNat + 1 by omega, List.take_add_one, nth_get h0 hi]
  unfold outOf
  rw [List.foldl_append]; rfl
theorem Ord.len {sp : List GSpot} {turn : List Int} (h : Ord sp turn) : turn.length = sp.length := by rw [h.perm.length_eq, tab_len]
theorem Ord.mem {sp : List GSpot} {turn : List Int} (h : Ord sp turn) {x : Int} (hx : x ∈ turn) : 0 ≤ x ∧ x < sp.length := by
  have := h.perm.mem_iff.1 hx
  unfold tab at this
  obtain ⟨k, hk, rfl⟩ := List.mem_map.1 this
  have := List.mem_range.1 hk; omega
theorem stepO_len {l : List GContract} {sp : List GSpot} {out : List Int} {i : Int} : (stepO l sp out i).length ≤ out.length + 1 := by
  unfold stepO; split
  · simp
  · omega
theorem outOf_len {l : List GContract} {sp : List GSpot} (turn : List Int) : (outOf l sp turn).length ≤ turn.length := by
  have key : ∀ (t : List Int) (o : List Int), (t.foldl (stepO l sp) o).length ≤ o.length + t.length := by
    intro t
    induction t with
    | nil => intro o; simp
    | cons a t ih => intro o; have := ih (stepO l sp o a); have := @stepO_len l sp o a; simp only [List.foldl_cons, List.length_cons]; omega
  have := key turn []; simpa [outOf] using this
theorem outOf_mem {l : List GContract} {sp : List GSpot} {turn : List Int} {x : Int} (hx : x ∈ outOf l sp turn) : x ∈ turn := by
  have key : ∀ (t : List Int) (o : List Int), x ∈ t.foldl (stepO l sp) o → x ∈ o ∨ x ∈ t := by
    intro t
    induction t with
    | nil => intro o h; exact .inl h
    | cons a t ih =>
      intro o h
      rcases ih _ h with h | h
      · unfold stepO at h
        split at h
        · rcases List.mem_append.1 h with h | h
          · exact .inl h
          · rw [List.mem_singleton.1 h]; exact .inr (List.mem_cons_self ..)
        · exact .inl h
      · exact .inr (List.mem_cons_of_mem _ h)
  rcases key turn [] hx with h | h
  · cases h
  · exact h
theorem count_no {l : List GContract} {sp : List GSpot} {v1 v2 : Value} {w0 : World} (hr1 : Rd fGContract.ty w0 v1 l) (hr2 : Rd fGSpot.ty w0 v2 sp) (hl : l.length ≤ 1000000000) (hl2 : sp.length ≤ 1000000000) (hv : ¬ (validC l = true ∧ validP sp = true)) :
    CallsV Tryd.prog 36 #[v1, v2] w0 (.tuple #[.pointer none, .slice none 0 0, .int .i64 120]) := by
  have S := St.start w0
  obtain ⟨A, c, rfl⟩ := hr1.len
  obtain ⟨A2, c2, rfl⟩ := hr2.len
  refine CallsV.mk ?_
  refine calls_enter Tryd.func36 rfl (by intro _ h; first | exact nomatch h.1 | (obtain ⟨_, h, _⟩ := h; exact nomatch h)) Tryd.ntmps36 rfl ?_
  by_cases h1 : validC l = true
  · have h2 : validP sp = false := by
      cases h : validP sp with
      | false => rfl
      | true => exact absurd ⟨h1, h⟩ hv
    repeat' (first | refine WP_seq ?_ | refine WP_region ?_ | refine wl_nil ?_ | refine then_normal ?_ | refine then_ret ?_ | refine WP_ret ?_ | refine WP_condT rfl ?_ | (refine g_move ?_; refine st_move rfl ?_) | (refine g_assign ?_; refine st_assign rfl ?_) | (refine g_pick ?_; refine st_pickF rfl rfl ?_) | (refine g_un ?_; refine st_val rfl (r_not rfl) ?_) | (refine g_load ?_; refine st_val rfl (r_loadVar (i := 0) S rfl rfl rfl) ?_) | (refine g_callV ?_; first | (refine st_callV rfl (r_call1 rfl rfl) (valid_is h1 (hr1.mono S.below) hl) ?_; intro w hb; replace S := S.grow hb; clear hb) | (refine st_callV rfl (r_call1 rfl rfl) (validSpots_is h2 (hr2.mono S.below) hl2) ?_; intro w hb; replace S := S.grow hb; clear hb)) | (refine g_box ?_; refine st_valE rfl (r_box S rfl) ?_; rintro _ w ⟨b, rfl, -, S'⟩; replace S := S'; clear S'))
    exact end3 rfl rfl rfl rfl ⟨rfl, S.below⟩
  · have h1 : validC l = false := by simpa using h1
    repeat' (first | refine WP_seq ?_ | refine WP_region ?_ | refine wl_nil ?_ | refine then_normal ?_ | refine then_ret ?_ | refine WP_ret ?_ | refine WP_condT rfl ?_ | (refine g_guard ?_; refine st_off rfl ?_) | (refine g_move ?_; refine st_move rfl ?_) | (refine g_assign ?_; refine st_assign rfl ?_) | (refine g_pick ?_; refine st_pickT rfl rfl ?_) | (refine g_un ?_; refine st_val rfl (r_not rfl) ?_) | (refine g_callV ?_; (refine st_callV rfl (r_call1 rfl rfl) (valid_is h1 (hr1.mono S.below) hl) ?_; intro w hb; replace S := S.grow hb; clear hb)) | (refine g_box ?_; refine st_valE rfl (r_box S rfl) ?_; rintro _ w ⟨b, rfl, -, S'⟩; replace S := S'; clear S'))
    exact end3 rfl rfl rfl rfl ⟨rfl, S.below⟩
end Go.Proofs.YteplelijhkmbkaaDoor
