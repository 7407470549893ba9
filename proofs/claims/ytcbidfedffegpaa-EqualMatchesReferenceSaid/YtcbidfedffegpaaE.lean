import Derived.Test.YtcbidfedffegpaaD
namespace Go.Proofs.Ytcbidfedffegpaa
open Go Go.Gx Go.RowKit
set_option linter.unusedVariables false
set_option linter.unusedSimpArgs false
/-- What the candidates have had after m appearances. -/
def hadAt (l : List GAppearance) (now : Int) : Nat → List Int
  | 0 => List.replicate 8 0
  | m + 1 => if (nth l (m : Int)).At ≤ now then (hadAt l now m).set (nth l (m : Int)).Candidate.toNat (nth (hadAt l now m) (nth l (m : Int)).Candidate + worthA (nth l (m : Int))) else hadAt l now m
/-- The queues after m appearances. -/
def qAt (n : Int) (l : List GAppearance) (now : Int) : Nat → Nat → List GClaim
  | 0 => fun _ => []
  | m + 1 => if (nth l (m : Int)).At ≤ now then appQ n m (nth l (m : Int)) (qAt n l now m) else qAt n l now m
theorem hadAt_len {l : List GAppearance} {now : Int} : ∀ m : Nat, (hadAt l now m).length = 8
  | 0 => by simp [hadAt]
  | m + 1 => by unfold hadAt; split <;> simp [hadAt_len m]
theorem valid_at {n : Int} {l : List GAppearance} (h : validA n l = true) : 2 ≤ n ∧ n ≤ 8 ∧ l.length ≤ 60 ∧ ∀ m : Nat, m < l.length → ok1 n (nth l (m : Int)) (prevA l m) = true := by
  unfold validA at h
  simp only [Bool.and_eq_true, decide_eq_true_eq] at h
  refine ⟨h.1.1.1, h.1.1.2, h.1.2, fun m hm => ?_⟩
  have := List.all_eq_true.1 h.2 m (List.mem_range.2 hm)
  exact this
theorem valid_el {n : Int} {l : List GAppearance} (h : validA n l = true) {m : Nat} (hm : m < l.length) :
    (0 ≤ (nth l (m : Int)).Candidate ∧ (nth l (m : Int)).Candidate < n) ∧ (0 ≤ (nth l (m : Int)).At ∧ (nth l (m : Int)).At ≤ 10000000) ∧ (1 ≤ (nth l (m : Int)).Seconds ∧ (nth l (m : Int)).Seconds ≤ 3600) ∧ (1 ≤ (nth l (m : Int)).Weight ∧ (nth l (m : Int)).Weight ≤ 10) ∧ prevA l m < (nth l (m : Int)).At := by
  obtain ⟨h1, h2, h3, h4⟩ := valid_at h
  have h5 := of_decide_eq_true (h4 m hm)
  have h6 := prev_nonneg (n := n) (l := l) (i := (m : Int)) (by omega) (fun j a b => by rw [okAt_i a]; have := h4 j.toNat (by omega); rwa [Int.toNat_of_nonneg a] at this)
  omega
theorem worth_bound {a : GAppearance} (hs : 1 ≤ a.Seconds ∧ a.Seconds ≤ 3600) (hw : 1 ≤ a.Weight ∧ a.Weight ≤ 10) : 1 ≤ worthA a ∧ worthA a ≤ 36000 := by
  unfold worthA
  have h1 := Int.mul_le_mul hs.2 hw.2 (by omega) (by omega)
  have h2 := Int.mul_le_mul hs.1 hw.1 (by omega) (by omega)
  omega
theorem hadAt_bound {n : Int} {l : List GAppearance} {now : Int} (h : validA n l = true) : ∀ m : Nat, m ≤ l.length → ∀ x ∈ hadAt l now m, 0 ≤ x ∧ x ≤ 36000 * m
  | 0, _ => fun x hx => by unfold hadAt at hx; rw [List.mem_replicate] at hx; omega
  | m + 1, hm => fun x hx => by
    have ih := hadAt_bound (now := now) h m (by omega)
    unfold hadAt at hx
    obtain ⟨h1, h2, h3, h4, h5⟩ := valid_el h (m := m) (by omega)
    have hw := worth_bound h3 h4
    split at hx
    · rcases List.mem_or_eq_of_mem_set hx with hx | hx
      · have := ih x hx; omega
      · have hn := (valid_at h).2.1
        have := ih _ (List.mem_of_getElem? (nth_get (l := hadAt l now m) (i := (nth l (m : Int)).Candidate) (by omega) (by rw [hadAt_len]; omega)))
        omega
    · have := ih x hx; omega
theorem serveQ_ok : ∀ (q : List GClaim) (w : Int), 0 ≤ w → (∀ c ∈ q, 1 ≤ c.Rest ∧ c.Rest ≤ 36000) → (serveQ w q).2.length ≤ q.length ∧ (∀ c ∈ (serveQ w q).2, 1 ≤ c.Rest ∧ c.Rest ≤ 36000) ∧ 0 ≤ (serveQ w q).1 ∧ (serveQ w q).1 ≤ w
  | [], w, hw, hq => ⟨Nat.le_refl _, hq, hw, Int.le_refl _⟩
  | c :: q, w, hw, hq => by
    have hc := hq c (List.mem_cons_self ..)
    have hq' := fun x hx => hq x (List.mem_cons_of_mem _ hx)
    rw [serveQ]
    split
    · split
      · have := serveQ_ok q (w - c.Rest) (by omega) hq'
        refine ⟨by rw [List.length_cons]; omega, this.2.1, this.2.2.1, by omega⟩
      · refine ⟨Nat.le_refl _, fun x hx => ?_, by omega, by omega⟩
        rcases List.mem_cons.1 hx with rfl | hx
        · show 1 ≤ c.Rest - w ∧ c.Rest - w ≤ 36000; omega
        · exact hq' x hx
    · exact ⟨Nat.le_refl _, hq, hw, Int.le_refl _⟩
theorem qAt_ok {n : Int} {l : List GAppearance} {now : Int} (h : validA n l = true) : ∀ m : Nat, m ≤ l.length → ∀ k, (qAt n l now m k).length ≤ m ∧ ∀ c ∈ qAt n l now m k, 1 ≤ c.Rest ∧ c.Rest ≤ 36000
  | 0, _ => fun k => ⟨Nat.le_refl _, fun c hc => by cases hc⟩
  | m + 1, hm => fun k => by
    have ih := qAt_ok (now := now) h m (by omega)
    obtain ⟨h1, h2, h3, h4, h5⟩ := valid_el h (m := m) (by omega)
    have hw := worth_bound h3 h4
    unfold qAt
    split
    · unfold appQ
      have hs := fun k => serveQ_ok (qAt n l now m k) (worthA (nth l (m : Int))) (by omega) (ih k).2
      split
      · exact ⟨Nat.le_trans (hs k).1 (Nat.le_succ_of_le (ih k).1), (hs k).2.1⟩
      · split
        · rename_i hk
          have hsc := hs (nth l (m : Int)).Candidate.toNat
          refine ⟨by rw [List.length_append]; have := (ih k).1; simp; omega, fun c hc => ?_⟩
          rcases List.mem_append.1 hc with hc | hc
          · exact (ih k).2 c hc
          · rw [List.mem_singleton.1 hc]; exact ⟨by show 1 ≤ (serveQ _ _).1; omega, by show (serveQ _ _).1 ≤ 36000; omega⟩
        · exact ⟨Nat.le_succ_of_le (ih k).1, (ih k).2⟩
    · exact ⟨Nat.le_succ_of_le (ih k).1, (ih k).2⟩
def accR (n : Int) (l : List GAppearance) (now : Int) (w : World) (v : Value) (w' : World) : Prop :=
  ∃ b vs obs, v = .tuple #[.pointer (some ⟨b, 0, none⟩), .int .i64 0] ∧ St w w' (.var b 65 (accC (hadAt l now l.length) n vs) :: obs) ∧ QS obs vs (qAt n l now l.length)
def okA (n : Int) (l : List GAppearance) (now : Int) : Bool := validA n l && inR now 0 20000000
def openR (n : Int) (l : List GAppearance) (now : Int) (w : World) (v : Value) (w' : World) : Prop :=
  (okA n l now = false ∧ v = .tuple #[.pointer none, .int .i64 130]) ∨ (okA n l now = true ∧ accR n l now w v w')
theorem open_run {n now : Int} {v : Value} {l : List GAppearance} {w0 : World} (hn : -9223372036854775808 ≤ n ∧ n ≤ 9223372036854775807) (hr : Rd fGAppearance.ty w0 v l) (hl : l.length ≤ 1000000000) :
    CallsR Try.prog 32 #[.int .i64 n, v, .int .i64 now] w0 (openR n l now w0) := by
  have S := St.start w0
  obtain ⟨A, c, rfl⟩ := hr.len
  refine CallsR.mk ?_
  refine calls_enter Try.func32 rfl (by intro _ h; first | exact nomatch h.1 | (obtain ⟨_, h, _⟩ := h; exact nomatch h)) Try.ntmps32 rfl ?_
  repeat' (first | refine WP_seq ?_ | refine WP_region ?_ | refine wl_nil ?_ | refine then_normal ?_ | refine then_ret ?_ | refine WP_ret ?_ | refine WP_skip ?_ | refine WP_block ?_ | refine WP_condT rfl ?_ | (refine g_guard ?_; refine st_off rfl ?_) | (refine g_move ?_; refine st_move rfl ?_) | (refine g_assign ?_; refine st_assign rfl ?_) | (refine g_pick ?_; first | refine st_pickT rfl rfl ?_ | refine st_pickF rfl rfl ?_) | (refine g_build ?_; refine st_val rfl (bd65_1 rfl) ?_) | (refine g_un ?_; refine st_val rfl (r_not rfl) ?_) | (refine g_c_len ?_; refine st_val rfl (r_lenSlice rfl) ?_) | (refine g_callV ?_; first | (refine st_callV rfl (r_call2 rfl rfl rfl) (valid_spec hn (hr.mono S.below) hl) ?_; intro w hb; replace S := S.grow hb; clear hb) | (refine st_callV rfl (r_call3 rfl rfl rfl rfl) (within_spec) ?_; intro w hb; replace S := S.grow hb; clear hb)) | (refine g_box ?_; refine st_valE rfl (r_box S rfl) ?_; rintro _ w ⟨b, rfl, -, S'⟩; replace S := S'; clear S') | (refine wl_split rfl rfl (fun h => ?_) (fun h => ?_) <;> (fail_if_success (have hh : true = true := h)) <;> (fail_if_success (have hh : false = false := h)) <;> (try simp only [decide_eq_true_eq, decide_eq_false_iff_not, Bool.not_eq_true', Bool.not_eq_false', Int.not_lt, Int.not_le] at h) <;> (try (exfalso; omega))) | (refine WP_cond rfl (fun h => ?_) (fun h => ?_) <;> (fail_if_success (have hh : true = true := h)) <;> (fail_if_success (have hh : false = false := h)) <;> (try simp only [decide_eq_true_eq, decide_eq_false_iff_not, Bool.not_eq_true', Bool.not_eq_false', Int.not_lt, Int.not_le] at h) <;> (try (exfalso; omega))))
  · refine end2 rfl rfl rfl ⟨_, rfl, S.below, .inl ⟨?_, rfl⟩⟩
    unfold okA; simp_all
  · refine end2 rfl rfl rfl ⟨_, rfl, S.below, .inl ⟨?_, rfl⟩⟩
    unfold okA; simp_all
  obtain ⟨bb, hbb⟩ : ∃ bb, bb = b := ⟨_, rfl⟩
  subst hbb
  have hok : okA n l now = true := by unfold okA; simp_all
  have hvd : validA n l = true := by simp_all
  have hva := valid_at hvd
  have hl0 : List.map (fun x => Value.int .i64 x) (hadAt l now 0) = List.replicate 8 (.int .i64 0) := rfl
  have T := S.nilRow fGClaim 39 |>.nilRow fGClaim 39 |>.nilRow fGClaim 39 |>.nilRow fGClaim 39 |>.nilRow fGClaim 39 |>.nilRow fGClaim 39 |>.nilRow fGClaim 39 |>.nilRow fGClaim 39
  replace S : St w0 _ (.var bb 65 (accC (hadAt l now 0) n (List.replicate 8 (.slice none 0 0))) :: List.replicate 8 (rowOb fGClaim 39 (.slice none 0 0) [])) := T
  clear T
  have hq : QS (List.replicate 8 (rowOb fGClaim 39 (.slice none 0 0) [])) (List.replicate 8 (.slice none 0 0)) (qAt n l now 0) := by
    refine ⟨rfl, rfl, fun k hk => ⟨_, _, by rw [List.getElem?_replicate, if_pos hk]; rfl, by rw [List.getElem?_replicate, if_pos hk], Qu.nil fGClaim 39⟩⟩
  refine WP_loop (fun k σ w1 => ∃ (m : Nat) (vs : List Value) (obs : List Ob), Has σ [(2, .int .i64 now), (8, .pointer (some ⟨bb, 0, none⟩)), (23, .slice A l.length c), (24, .int .i64 l.length), (25, .int .i64 (m : Int))] ∧ St w0 w1 (.var bb 65 (accC (hadAt l now m) n vs) :: obs) ∧ QS obs vs (qAt n l now m) ∧ m ≤ l.length ∧ k = l.length - m) l.length
    ⟨0, _, _, ⟨rfl, rfl, rfl, rfl, rfl, trivial⟩, S, hq, by omega, rfl⟩ ?_
  clear S hq
  rintro k σ w1 ⟨m, vs, obs, hs', S, hq, hm, rfl⟩
  refine WP_has hs' ?_
  by_cases hi : m < l.length
  · obtain ⟨e1, e2, e3, e4, e5⟩ := valid_el hvd hi
    by_cases hat : (nth l (m : Int)).At ≤ now
    · have eh : hadAt l now (m + 1) = (hadAt l now m).set (nth l (m : Int)).Candidate.toNat (nth (hadAt l now m) (nth l (m : Int)).Candidate + worthA (nth l (m : Int))) := by rw [hadAt, if_pos hat]
      have eq : qAt n l now (m + 1) = appQ n m (nth l (m : Int)) (qAt n l now m) := by rw [qAt, if_pos hat]
      repeat' (first | refine WP_seq ?_ | refine WP_region ?_ | refine wl_nil ?_ | refine then_normal ?_ | refine WP_skip ?_ | refine WP_block ?_ | (refine g_move ?_; refine st_move rfl ?_) | (refine g_assign ?_; refine st_assign rfl ?_) | (refine g_b_lss ?_; refine st_val rfl (r_lss rfl rfl) ?_) | (refine g_b_leq ?_; refine st_val rfl (r_leq rfl rfl) ?_) | (refine g_fieldAddr ?_; refine st_val rfl (r_fieldAddrL rfl) ?_) | (refine g_indexAddr ?_; (refine st_val rfl (r_indexAddr (hr.mono S.below) rfl rfl ?_ ?_) ?_; (first | omega | (simp <;> omega)); (first | omega | (simp <;> omega)))) | (refine g_load ?_; first | (refine st_val rfl (r_loadElem (hr.mono S.below) rfl ?_ ?_) ?_; (first | omega | (simp <;> omega)); (first | omega | (simp <;> omega))) | refine st_val rfl (r_loadVar (i := 0) S rfl rfl rfl) ?_ | refine st_val rfl (r_loadVarA (i := 0) S rfl rfl rfl rfl) ?_) | (refine g_alloc ?_; refine st_valE rfl (r_alloc S) ?_; rintro _ w ⟨b, rfl, -, S'⟩; replace S := S'.front; clear S') | (refine g_store ?_; (refine st_skipE rfl (r_storeVar (i := 0) S rfl rfl rfl rfl (of_decide_eq_true rfl) (of_decide_eq_true rfl)) ?_; intro w S'; replace S := S'; clear S')) | (refine WP_cond rfl (fun h => ?_) (fun h => ?_) <;> (fail_if_success (have hh : true = true := h)) <;> (fail_if_success (have hh : false = false := h)) <;> (try simp only [decide_eq_true_eq, decide_eq_false_iff_not, Bool.not_eq_true', Bool.not_eq_false', Int.not_lt, Int.not_le] at h) <;> (try (exfalso; omega))))
      replace S : St w0 _ (.var b 49 (nth l (m : Int)).enc :: .var bb 65 (accC (hadAt l now m) n vs) :: obs) := S
      replace S := S.tail
      refine st_callW rfl (r_call3 rfl rfl rfl rfl) (appear_run S (hadAt_len m) hq ⟨hva.1, hva.2.1⟩ e1 e3 e4 e2 (by omega) (fun x hx => by have := hadAt_bound hvd m (by omega) x hx; omega) (fun k hk => by have := qAt_ok (now := now) hvd m (by omega) k; exact ⟨by omega, this.2⟩)) ?_
      rintro _ w ⟨vs', obs', S', hq'⟩
      replace S := S'
      clear S'
      rw [← eh] at S
      rw [← eq] at hq'
      repeat' (first | refine WP_region ?_ | refine wl_nil ?_ | refine then_normal ?_ | refine inB_normal ?_ | (refine g_move ?_; refine st_move rfl ?_) | (refine g_b_add ?_; (refine st_val rfl (r_addN rfl rfl ?_ ?_) ?_; (first | omega | (simp <;> omega)); (first | omega | (simp <;> omega)))))
      refine ⟨⟨_, ?_, m + 1, vs', obs', ⟨rfl, rfl, rfl, rfl, rfl, trivial⟩, S, hq', by omega, rfl⟩⟩
      omega
    · have eh : hadAt l now (m + 1) = hadAt l now m := by rw [hadAt, if_neg hat]
      have eq : qAt n l now (m + 1) = qAt n l now m := by rw [qAt, if_neg hat]
      repeat' (first | refine WP_seq ?_ | refine WP_region ?_ | refine wl_nil ?_ | refine then_normal ?_ | refine inB_normal ?_ | refine WP_skip ?_ | refine WP_block ?_ | (refine g_move ?_; refine st_move rfl ?_) | (refine g_assign ?_; refine st_assign rfl ?_) | (refine g_b_add ?_; (refine st_val rfl (r_addN rfl rfl ?_ ?_) ?_; (first | omega | (simp <;> omega)); (first | omega | (simp <;> omega)))) | (refine g_b_lss ?_; refine st_val rfl (r_lss rfl rfl) ?_) | (refine g_b_leq ?_; refine st_val rfl (r_leq rfl rfl) ?_) | (refine g_fieldAddr ?_; refine st_val rfl (r_fieldAddrL rfl) ?_) | (refine g_indexAddr ?_; (refine st_val rfl (r_indexAddr (hr.mono S.below) rfl rfl ?_ ?_) ?_; (first | omega | (simp <;> omega)); (first | omega | (simp <;> omega)))) | (refine g_load ?_; first | (refine st_val rfl (r_loadElem (hr.mono S.below) rfl ?_ ?_) ?_; (first | omega | (simp <;> omega)); (first | omega | (simp <;> omega))) | refine st_val rfl (r_loadVar (i := 0) S rfl rfl rfl) ?_) | (refine g_alloc ?_; refine st_valE rfl (r_alloc S) ?_; rintro _ w ⟨b, rfl, -, S'⟩; replace S := S'.front; clear S') | (refine g_store ?_; (refine st_skipE rfl (r_storeVar (i := 0) S rfl rfl rfl rfl (of_decide_eq_true rfl) (of_decide_eq_true rfl)) ?_; intro w S'; replace S := S'; clear S')) | (refine WP_cond rfl (fun h => ?_) (fun h => ?_) <;> (fail_if_success (have hh : true = true := h)) <;> (fail_if_success (have hh : false = false := h)) <;> (try simp only [decide_eq_true_eq, decide_eq_false_iff_not, Bool.not_eq_true', Bool.not_eq_false', Int.not_lt, Int.not_le] at h) <;> (try (exfalso; omega))))
      refine ⟨⟨_, ?_, m + 1, vs, obs, ⟨rfl, rfl, rfl, rfl, rfl, trivial⟩, by rw [eh]; exact S.tail, by rw [eq]; exact hq, by omega, rfl⟩⟩
      omega
  · repeat' (first | refine WP_seq ?_ | refine WP_region ?_ | refine wl_nil ?_ | refine then_normal ?_ | refine then_exit ?_ | refine inB_here ?_ | refine WP_ret ?_ | refine WP_exit ?_ | (refine g_move ?_; refine st_move rfl ?_) | (refine g_assign ?_; refine st_assign rfl ?_) | (refine g_b_lss ?_; refine st_val rfl (r_lss rfl rfl) ?_) | (refine WP_cond rfl (fun h => ?_) (fun h => ?_) <;> (fail_if_success (have hh : true = true := h)) <;> (fail_if_success (have hh : false = false := h)) <;> (try simp only [decide_eq_true_eq, decide_eq_false_iff_not, Bool.not_eq_true', Bool.not_eq_false', Int.not_lt, Int.not_le] at h) <;> (try (exfalso; omega))))
    have hml : m = l.length := by omega
    subst hml
    exact end2 rfl rfl rfl ⟨_, rfl, S.below, .inr ⟨hok, bb, vs, obs, rfl, S, hq⟩⟩
end Go.Proofs.Ytcbidfedffegpaa
