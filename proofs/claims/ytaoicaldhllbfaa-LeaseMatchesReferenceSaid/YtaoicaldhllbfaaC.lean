import Derived.Test.YtaoicaldhllbfaaB
namespace Go.Proofs.Ytaoicaldhllbfaa
open Go Go.Gx Go.RowKit
set_option linter.unusedVariables false
set_option linter.unusedSimpArgs false

def zL : GLease := ⟨0, 0, 0, 0, 0, 0⟩
def freeL (last : GLease) (r : GRequest) : Bool := decide (last.Epoch = 0) || overL last r.At
def grantL (last : GLease) (r : GRequest) : GLease := ⟨r.Hub, last.Epoch + 1, r.Asked, r.At, r.Length, max last.Until (r.At + r.Length)⟩
def skipL (last : GLease) (r : GRequest) : Bool := !freeL last r && !decide (r.Hub = last.Hub)
def stepL (st : GLease × List GLease) (r : GRequest) : GLease × List GLease :=
  if skipL st.1 r = true then (st.1, st.2 ++ [zL]) else (grantL st.1 r, st.2 ++ [grantL st.1 r])
def runL (l : List GRequest) : GLease × List GLease := l.foldl stepL (zL, [])
theorem runL_snoc (l : List GRequest) (r : GRequest) : runL (l ++ [r]) = stepL (runL l) r := by simp [runL]
theorem runL_len (l : List GRequest) : (runL l).2.length = l.length := by
  have key : ∀ (l : List GRequest) (st : GLease × List GLease), (l.foldl stepL st).2.length = st.2.length + l.length := by
    intro l
    induction l with
    | nil => intro st; simp
    | cons a r ih => intro st; rw [List.foldl_cons, ih]; unfold stepL; split <;> simp <;> omega
  simpa [runL] using key l (zL, [])
theorem take_snoc {α : Type} [Inhabited α] {l : List α} {i : Int} (h0 : 0 ≤ i) (h : i < l.length) : l.take (i + 1).toNat = l.take i.toNat ++ [nth l i] := by
  rw [show (i + 1).toNat = i.toNat + 1 by omega, List.take_add_one, nth_get h0 h]; rfl

/-- What is known of the last lease. -/
def okL (k : Int) (x : GLease) : Prop := 0 ≤ x.Epoch ∧ x.Epoch ≤ k ∧ 0 ≤ x.Until ∧ x.Until ≤ 10003600
def okR (x : GRequest) : Prop := 0 ≤ x.Hub ∧ x.Hub ≤ 2 ∧ 0 ≤ x.Asked ∧ x.Asked ≤ 10000000 ∧ 0 ≤ x.At ∧ x.At ≤ 10000000 ∧ 1 ≤ x.Length ∧ x.Length ≤ 3600
theorem badReq_ok {x : GRequest} (h : badReq x = false) : okR x := by
  simp [badReq, inR] at h; unfold okR; omega
theorem valid_ok {l : List GRequest} (h : validReqs l = true) : l.length ≤ 24 ∧ ∀ x ∈ l, okR x := by
  simp [validReqs] at h
  exact ⟨h.1.1, fun x hx => badReq_ok (h.1.2 x hx)⟩

def GrantsR (l : List GRequest) (w : World) (v : Value) (w' : World) : Prop :=
  if validReqs l = true then ∃ v1, v = .tuple #[v1, .int .i64 0] ∧ NewRow fGLease 30 w w' v1 (runL l).2 else v = .tuple #[.slice none 0 0, .int .i64 300]

theorem okL_grant {k : Int} {x : GLease} {r : GRequest} (h : okL k x) (hr : okR r) : okL (k + 1) (grantL x r) := by
  unfold okL okR grantL at *
  simp only [Int.max_def]
  split <;> omega
theorem okL_step {k : Int} {st : GLease × List GLease} {r : GRequest} (h : okL k st.1) (hr : okR r) : okL (k + 1) (stepL st r).1 := by
  unfold stepL
  split
  · exact ⟨h.1, Int.le_trans h.2.1 (by omega), h.2.2⟩
  · exact okL_grant h hr
theorem set_mid {α : Type} [Inhabited α] {l : List α} {i n : Nat} {z x : α} (hl : l.length = i) (h : i < n) : (l ++ List.replicate (n - i) z).set i x = l ++ [x] ++ List.replicate (n - (i + 1)) z := by
  obtain ⟨m, hm⟩ : ∃ m, n - i = m + 1 := ⟨n - i - 1, by omega⟩
  rw [hm, List.replicate_succ, List.set_append_right _ _ (by omega), hl, Nat.sub_self, List.set_cons_zero, show n - (i + 1) = m by omega]
  simp
theorem mid_skip {α : Type} {l : List α} {i n : Nat} {z : α} (h : i < n) : l ++ List.replicate (n - i) z = l ++ [z] ++ List.replicate (n - (i + 1)) z := by
  obtain ⟨m, hm⟩ : ∃ m, n - i = m + 1 := ⟨n - i - 1, by omega⟩
  rw [hm, List.replicate_succ, show n - (i + 1) = m by omega]
  simp

theorem grants_spec {v : Value} {l : List GRequest} {w0 : World} (hr : Rd fGRequest.ty w0 v l) (hl : l.length ≤ 1000000000) :
    CallsR Try.prog 12 #[v] w0 (GrantsR l w0) := by
  have S := St.start w0
  obtain ⟨A, c, rfl⟩ := hr.len
  refine CallsR.mk ?_
  refine calls_enter Try.func12 rfl Try.ntmps12 rfl ?_
  repeat' (first | refine WP_seq ?_ | refine WP_region ?_ | refine wl_nil ?_ | refine then_normal ?_ | refine then_ret ?_ | refine WP_ret ?_ | refine WP_skip ?_ | (refine g_move ?_; refine st_move rfl ?_) | (refine g_assign ?_; refine st_assign rfl ?_) | (refine g_un ?_; refine st_val rfl (r_not rfl) ?_) | (refine g_c_len ?_; refine st_val rfl (r_lenSlice rfl) ?_) | (refine g_callV ?_; (refine st_callV rfl (r_call1 rfl rfl) (valid_spec (hr.mono S.below) hl) ?_; intro w hb; replace S := S.grow hb; clear hb)) | (refine WP_cond rfl (fun h => ?_) (fun h => ?_) <;> (fail_if_success (have hh : true = true := h)) <;> (try simp only [decide_eq_true_eq, decide_eq_false_iff_not, Bool.not_eq_true', Bool.not_eq_false', Int.not_lt, Int.not_le] at h) <;> (try (exfalso; omega))))
  · exact end2 (v := .slice none 0 0) (v2 := .int .i64 300) rfl rfl rfl ⟨_, rfl, S.below, by unfold GrantsR; rw [if_neg (by simp [h])]⟩
  obtain ⟨hlen, hok⟩ := valid_ok h
  have hv := h; clear h
  refine st_valE rfl (r_makeF (D := fGLease) zL S rfl rfl rfl (by decide) (by omega) (by omega)) ?_
  rintro _ w ⟨b1, rfl, -, S'⟩; replace S := S'; clear S'
  repeat' (first | refine WP_seq ?_ | refine WP_region ?_ | refine wl_nil ?_ | refine then_normal ?_ | refine WP_block ?_ | (refine g_move ?_; refine st_move rfl ?_) | (refine g_assign ?_; refine st_assign rfl ?_) | (refine g_c_len ?_; refine st_val rfl (r_lenSlice rfl) ?_) | (refine g_alloc ?_; refine st_valE rfl (r_alloc S) ?_; rintro _ w ⟨b, rfl, -, S'⟩; replace S := S'; clear S'))
  obtain ⟨bL, rfl⟩ : ∃ x, x = b := ⟨_, rfl⟩
  refine WP_loop (fun k σ w1 => ∃ (i : Int) , Has σ [(4, .slice (some ⟨b1, 0, none⟩) l.length l.length), (5, .pointer (some ⟨bL, 0, none⟩)), (15, .slice A l.length c), (16, .int .i64 l.length), (17, .int .i64 i)] ∧ St w0 w1 [rowOb fGLease 30 (.slice (some ⟨b1, 0, none⟩) l.length l.length) ((runL (l.take i.toNat)).2 ++ List.replicate (l.length - i.toNat) zL), .var bL 30 (runL (l.take i.toNat)).1.enc] ∧ 0 ≤ i ∧ i ≤ l.length ∧ okL i (runL (l.take i.toNat)).1 ∧ k = l.length - i.toNat) l.length ⟨0, ⟨rfl, rfl, rfl, rfl, rfl, trivial⟩, S, by omega, by omega, by simp [runL, okL, zL], by omega⟩ ?_
  rintro k σ w1 ⟨i, hs, S, hi0, hi1, hk, rfl⟩
  refine WP_has hs ?_
  by_cases hi : i < l.length
  · have hx := hok _ (List.mem_of_getElem? (nth_get hi0 hi))
    have q := hk; have q2 := hx
    unfold okL at q; unfold okR at q2
    obtain ⟨q1, q2', q3, q4⟩ := q
    obtain ⟨y1, y2, y3, y4, y5, y6, y7, y8⟩ := q2
    have hstep := runL_snoc (l.take i.toNat) (nth l i)
    rw [← take_snoc hi0 hi] at hstep
    have hlr : (runL (l.take i.toNat)).2.length = i.toNat := by rw [runL_len, List.length_take]; omega
    have hnext := okL_step hk hx
    rw [← hstep] at hnext
    have close1 : ∀ {w1 : World}, skipL (runL (l.take i.toNat)).1 (nth l i) = true → St w0 w1 [rowOb fGLease 30 (.slice (some ⟨b1, 0, none⟩) l.length l.length) ((runL (l.take i.toNat)).2 ++ List.replicate (l.length - i.toNat) zL), .var bL 30 (runL (l.take i.toNat)).1.enc] →
        St w0 w1 [rowOb fGLease 30 (.slice (some ⟨b1, 0, none⟩) l.length l.length) ((runL (l.take (i + 1).toNat)).2 ++ List.replicate (l.length - (i + 1).toNat) zL), .var bL 30 (runL (l.take (i + 1).toNat)).1.enc] := by
      intro w1 hs S
      rw [hstep]; unfold stepL; rw [if_pos hs]
      rw [mid_skip (by omega : i.toNat < l.length)] at S
      rwa [show (i + 1).toNat = i.toNat + 1 by omega]
    have close2 : ∀ {w1 : World}, skipL (runL (l.take i.toNat)).1 (nth l i) = false → St w0 w1 [rowOb fGLease 30 (.slice (some ⟨b1, 0, none⟩) l.length l.length) (((runL (l.take i.toNat)).2 ++ List.replicate (l.length - i.toNat) zL).set i.toNat (grantL (runL (l.take i.toNat)).1 (nth l i))), .var bL 30 (grantL (runL (l.take i.toNat)).1 (nth l i)).enc] →
        St w0 w1 [rowOb fGLease 30 (.slice (some ⟨b1, 0, none⟩) l.length l.length) ((runL (l.take (i + 1).toNat)).2 ++ List.replicate (l.length - (i + 1).toNat) zL), .var bL 30 (runL (l.take (i + 1).toNat)).1.enc] := by
      intro w1 hs S
      rw [hstep]; unfold stepL; rw [if_neg (by rw [hs]; decide)]
      rw [set_mid hlr (by omega : i.toNat < l.length)] at S
      rwa [show (i + 1).toNat = i.toNat + 1 by omega]
    repeat' (first | refine WP_seq ?_ | refine WP_region ?_ | refine wl_nil ?_ | refine then_normal ?_ | refine inB_normal ?_ | refine then_exit ?_ | refine inB_here ?_ | refine WP_skip ?_ | refine WP_exit ?_ | refine WP_block ?_ | refine WP_condF rfl ?_ | (refine g_guard ?_; refine st_off rfl ?_) | (refine g_move ?_; refine st_move rfl ?_) | (refine g_assign ?_; refine st_assign rfl ?_) | (refine g_pick ?_; first | refine st_pickT rfl rfl ?_ | refine st_pickF rfl rfl ?_) | (refine g_b_add ?_; (refine st_val rfl (r_addN rfl rfl ?_ ?_) ?_; (first | omega | (simp <;> omega)); (first | omega | (simp <;> omega)))) | (refine g_b_eql ?_; refine st_val rfl (r_eql rfl rfl) ?_) | (refine g_b_neq ?_; refine st_val rfl (r_neq rfl rfl) ?_) | (refine g_b_lss ?_; refine st_val rfl (r_lss rfl rfl) ?_) | (refine g_build ?_; refine st_val rfl (bd30_0_1_2_3_4_5 rfl rfl rfl rfl rfl rfl) ?_) | (refine g_un ?_; refine st_val rfl (r_not rfl) ?_) | (refine g_c_max ?_; refine st_val rfl (r_max2 rfl rfl) ?_) | (refine g_fieldAddr ?_; refine st_val rfl (r_fieldAddrL rfl) ?_) | (refine g_indexAddr ?_; first | (refine st_val rfl (r_indexAddr (hr.mono S.below) rfl rfl ?_ ?_) ?_; (first | omega | (simp <;> omega)); (first | omega | (simp <;> omega))) | (refine st_val rfl (r_indexAddr (S.rdRow (D := fGLease) (i := 0) rfl) rfl rfl ?_ ?_) ?_; (first | omega | (simp <;> omega)); (first | omega | (simp <;> omega)))) | (refine g_load ?_; first | (refine st_val rfl (r_loadElem (hr.mono S.below) rfl ?_ ?_) ?_; (first | omega | (simp <;> omega)); (first | omega | (simp <;> omega))) | refine st_val rfl (r_loadVar (i := 1) S rfl rfl rfl) ?_ | refine st_val rfl (r_loadVarA (i := 1) S rfl rfl rfl rfl) ?_ | refine st_val rfl (r_loadVar (i := 2) S rfl rfl rfl) ?_) | (refine g_callV ?_; (refine st_callV rfl (r_call2 rfl rfl rfl) (over_spec) ?_; intro w hb; replace S := S.grow hb; clear hb)) | (refine g_alloc ?_; refine st_valE rfl (r_alloc S) ?_; rintro _ w ⟨b, rfl, -, S'⟩; replace S := S'; clear S') | (refine g_store ?_; first | (refine st_skipE rfl (r_storeVar (i := 0) S rfl rfl rfl rfl (of_decide_eq_true rfl) (of_decide_eq_true rfl)) ?_; intro w S'; replace S := S'; clear S') | (refine st_skipE rfl (r_storeVar (i := 1) S rfl rfl rfl rfl (of_decide_eq_true rfl) (of_decide_eq_true rfl)) ?_; intro w S'; replace S := S'; clear S') | (refine st_skipE rfl (r_storeVar (i := 2) S rfl rfl rfl rfl (of_decide_eq_true rfl) (of_decide_eq_true rfl)) ?_; intro w S'; replace S := S'; clear S')) | (refine g_store ?_; refine st_skipE rfl (r_storeElem (i := 0) (x := grantL (runL (l.take i.toNat)).1 (nth l i)) S rfl rfl rfl rfl (of_decide_eq_true rfl) hi0 (by simp [hlr]; omega)) ?_; intro w S'; replace S := S'; clear S') | (refine wl_split rfl rfl (fun h => ?_) (fun h => ?_) <;> (fail_if_success (have hh : true = true := h)) <;> (try simp only [decide_eq_true_eq, decide_eq_false_iff_not, Bool.not_eq_true', Bool.not_eq_false', Int.not_lt, Int.not_le] at h) <;> (try (exfalso; omega))) | (refine WP_cond rfl (fun h => ?_) (fun h => ?_) <;> (fail_if_success (have hh : true = true := h)) <;> (try simp only [decide_eq_true_eq, decide_eq_false_iff_not, Bool.not_eq_true', Bool.not_eq_false', Int.not_lt, Int.not_le] at h) <;> (try (exfalso; omega))))
    all_goals refine ⟨⟨_, ?_, i + 1, ⟨rfl, rfl, rfl, rfl, rfl, trivial⟩, ?_, by omega, by omega, hnext, rfl⟩⟩
    all_goals first | omega | skip
    all_goals first | (refine close1 ?_ (S.sub (List.sublist_append_left [_, _] [_])); simp [skipL, freeL, *]; done) | (refine close2 ?_ (S.sub (List.sublist_append_left [_, _] [_])); simp [skipL, freeL, *]; done) | skip
    all_goals trace_state
  · repeat' (first | refine WP_seq ?_ | refine WP_region ?_ | refine wl_nil ?_ | refine then_normal ?_ | refine then_exit ?_ | refine inB_here ?_ | refine WP_ret ?_ | refine WP_exit ?_ | (refine g_move ?_; refine st_move rfl ?_) | (refine g_assign ?_; refine st_assign rfl ?_) | (refine g_b_lss ?_; refine st_val rfl (r_lss rfl rfl) ?_) | (refine WP_cond rfl (fun h => ?_) (fun h => ?_) <;> (fail_if_success (have hh : true = true := h)) <;> (try simp only [decide_eq_true_eq, decide_eq_false_iff_not, Bool.not_eq_true', Bool.not_eq_false', Int.not_lt, Int.not_le] at h) <;> (try (exfalso; omega))))
    refine end2 (v := .slice (some ⟨b1, 0, none⟩) l.length l.length) (v2 := .int .i64 0) rfl rfl rfl ⟨_, rfl, S.below, ?_⟩
    unfold GrantsR
    rw [if_pos hv]; refine ⟨_, rfl, ?_⟩
    have e := S.row (i := 0) rfl
    rw [show i.toNat = l.length by omega, List.take_of_length_le (Nat.le_refl _), Nat.sub_self, List.replicate_zero, List.append_nil] at e
    exact e

end Go.Proofs.Ytaoicaldhllbfaa
