import Derived.Test.YtcbidfedffegpaaB
import Derived.Test.YtcbidfedffegpaaGxQue
namespace Go.Proofs.Ytcbidfedffegpaa
open Go Go.Gx Go.RowKit
set_option linter.unusedVariables false
set_option linter.unusedSimpArgs false
/-- The cells of the accounts. -/
def accC (had : List Int) (n : Int) (vs : List Value) : List Value := had.map (fun x => Value.int .i64 x) ++ (.int .i64 n :: vs)
theorem accC_had {had : List Int} {n : Int} {vs : List Value} {c : Nat} {x : Int} (h : had[c]? = some x) : (accC had n vs)[c]? = some (.int .i64 x) := by
  have hlt := (List.getElem?_eq_some_iff.1 h).1
  unfold accC
  rw [List.getElem?_append_left (by simpa using hlt), List.getElem?_map, h]; rfl
theorem accC_n {had : List Int} {n : Int} {vs : List Value} (hl : had.length = 8) : (accC had n vs)[8]? = some (.int .i64 n) := by
  unfold accC
  rw [List.getElem?_append_right (by simp [hl])]; simp [hl]
theorem accC_vs {had : List Int} {n : Int} {vs : List Value} (hl : had.length = 8) {k : Nat} {v : Value} (h : vs[k]? = some v) : (accC had n vs)[9 + k]? = some v := by
  unfold accC
  rw [List.getElem?_append_right (by simp [hl]; omega), List.length_map, hl, show 9 + k - 8 = k + 1 by omega, List.getElem?_cons_succ]; exact h
theorem splice_one {l : List Value} {i : Nat} {v : Value} (h : i < l.length) : splice l i [v] = l.set i v := by
  unfold splice; rw [List.set_eq_take_append_cons_drop, if_pos h]; simp
theorem accC_setHad {had : List Int} {n : Int} {vs : List Value} {c : Nat} {x : Int} (h : c < had.length) : splice (accC had n vs) c [.int .i64 x] = accC (had.set c x) n vs := by
  rw [splice_one (by unfold accC; rw [List.length_append, List.length_map]; omega)]
  unfold accC
  rw [List.set_append_left _ _ (by simpa using h), List.map_set]
theorem accC_setVs {had : List Int} {n : Int} {vs : List Value} (hl : had.length = 8) {k : Nat} {v : Value} (h : k < vs.length) : splice (accC had n vs) (9 + k) [v] = accC had n (vs.set k v) := by
  rw [splice_one (by unfold accC; simp [hl]; omega)]
  unfold accC
  rw [List.set_append_right _ _ (by simp [hl]; omega), List.length_map, hl, show 9 + k - 8 = k + 1 by omega, List.set_cons_succ]
theorem accC_len {had : List Int} {n : Int} {vs : List Value} (hl : had.length = 8) (hv : vs.length = 8) : (accC had n vs).length = 17 := by unfold accC; simp [hl, hv]
theorem addH_run {b : Nat} {cand x h n : Int} {had : List Int} {vs : List Value} {obs : List Ob} {w0 w : World} (S : St w0 w (.var b 65 (accC had n vs) :: obs)) (hl : had.length = 8) (hv : vs.length = 8)
    (h0 : 0 ≤ cand) (h8 : cand < 8) (hx : had[cand.toNat]? = some h) (hb : -1000000000000 ≤ h + x ∧ h + x ≤ 1000000000000) :
    CallsW Try.prog 47 #[.pointer (some ⟨b, 0, none⟩), .int .i64 cand, .int .i64 x] w (fun v w' => St w0 w' (.var b 65 (accC (had.set cand.toNat (h + x)) n vs) :: obs)) := by
  refine CallsW.mk ?_
  refine calls_enter Try.func47 rfl (by intro _ h; first | exact nomatch h.1 | (obtain ⟨_, h, _⟩ := h; exact nomatch h)) Try.ntmps47 rfl ?_
  repeat' (first | refine WP_drawTail 11 (by kernel_rfl) (by decide +kernel) ?_ | (refine ql_nil ?_; intro w hb; replace S := S.grow hb; clear hb) | (refine gq_move ?_; refine q_move rfl ?_) | (refine gq_b_add ?_; (refine q_val rfl (fun w' hb => r_addN rfl rfl ?_ ?_) ?_; (first | omega | (simp <;> omega)); (first | omega | (simp <;> omega)))) | (refine gq_nilCheck ?_; refine q_val rfl (fun w' hb => r_nilCheck rfl) ?_) | (refine gq_fieldAddr ?_; refine q_val rfl (fun w' hb => r_fieldAddrL rfl) ?_) | (refine gq_indexAddr ?_; (refine q_val rfl (fun w' hb => r_indexAddrArrL rfl rfl ?_ ?_) ?_; (first | omega | (simp <;> omega)); (first | omega | (simp <;> omega)))) | (refine q_val rfl (fun w' hb => r_loadVar (i := 0) (S.grow hb) rfl rfl (by have := accC_had (n := n) (vs := vs) hx; simpa using this)) ?_))
  refine st_skipE rfl (r_storeVar (i := 0) (o := 0 + 0 + cand.toNat * 1) (size := 1) (v := .int .i64 (h + x)) S rfl rfl rfl rfl (by rw [accC_len hl hv]; omega) (fun c hc => by cases List.mem_singleton.1 hc; rfl)) ?_
  intro w S'
  refine wl_nil ?_
  refine end0 rfl ⟨_, rfl, ?_⟩
  have e : splice (accC had n vs) (0 + 0 + cand.toNat * 1) [.int .i64 (h + x)] = accC (had.set cand.toNat (h + x)) n vs := by
    rw [← accC_setHad (by omega)]; congr 1; omega
  rw [← e]; exact S'
end Go.Proofs.Ytcbidfedffegpaa
