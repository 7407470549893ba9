import Derived.Test.YtcbidfedffegpaaJ
import Derived.Test.YtcbidfedffegpaaGxKeep
namespace Go.Proofs.Ytcbidfedffegpaa
open Go Go.Gx Go.RowKit
set_option linter.unusedVariables false
set_option linter.unusedSimpArgs false
def overI (n : Int) (l : List GAppearance) (now : Int) : List GClaim := kept now (claimsI n l now)
def overG (n : Int) (l : List GAppearance) (now : Int) (w : World) (v : Value) (w' : World) : Prop := ∃ u, v = .tuple #[u, .int .i64 (errI n l now)] ∧ NewRow fGClaim 39 w w' u (overI n l now)
theorem overdue_run {n now : Int} {v : Value} {l : List GAppearance} {w0 : World} (hn : -9223372036854775808 ≤ n ∧ n ≤ 9223372036854775807) (hr : Rd fGAppearance.ty w0 v l) (hl : l.length ≤ 1000000000) :
    CallsR Try.prog 18 #[.int .i64 n, v, .int .i64 now] w0 (overG n l now w0) := by
  have S := St.start w0
  refine CallsR.mk ?_
  refine calls_enter Try.func18 rfl (by intro _ h; first | exact nomatch h.1 | (obtain ⟨_, h, _⟩ := h; exact nomatch h)) Try.ntmps18 rfl ?_
  repeat' (first | refine WP_seq ?_ | refine WP_region ?_ | refine wl_nil ?_ | refine then_normal ?_ | (refine g_move ?_; refine st_move rfl ?_) | (refine g_assign ?_; refine st_assign rfl ?_) | (refine g_load ?_; refine st_val rfl (r_loadVar (i := 0) S rfl rfl rfl) ?_) | (refine g_box ?_; refine st_valE rfl (r_box S rfl) ?_; rintro _ w ⟨b, rfl, -, S'⟩; replace S := S'; clear S'))
  refine st_callR rfl (r_call3 rfl rfl rfl rfl) (claims_run hn (hr.mono S.below) hl) ?_
  rintro v w hb ⟨u, rfl, hrow⟩
  replace S := (S.new hb hrow).front
  clear hb hrow
  repeat' (first | refine WP_seq ?_ | refine WP_region ?_ | refine wl_nil ?_ | refine then_normal ?_ | (refine g_move ?_; refine st_move rfl ?_) | (refine g_assign ?_; refine st_assign rfl ?_) | (refine g_extract ?_; refine st_val rfl (r_extract rfl rfl) ?_) | (refine g_makeFunc ?_; refine st_val rfl (r_makeFn1 rfl) ?_))
  refine st_callW rfl (r_call2 rfl rfl rfl) (delete_run S (Nat.le_trans claims_len (by omega))) ?_
  rintro u2 w S'
  replace S := S'
  repeat' (first | refine wl_nil ?_ | refine then_normal ?_ | refine WP_ret ?_ | (refine g_move ?_; refine st_move rfl ?_) | (refine g_assign ?_; refine st_assign rfl ?_))
  exact end2 rfl rfl rfl ⟨_, rfl, S.below, u2, rfl, S.row (i := 0) rfl⟩
def headC (l : List GClaim) : GClaim × Bool := match l with | [] => (⟨0, 0, 0, 0⟩, false) | x :: _ => (x, true)
def firstI (n : Int) (l : List GAppearance) (now : Int) : GClaim × Bool := headC (claimsI n l now)
theorem next_spec {n now : Int} {v : Value} {l : List GAppearance} {w0 : World} (hn : -9223372036854775808 ≤ n ∧ n ≤ 9223372036854775807) (hr : Rd fGAppearance.ty w0 v l) (hl : l.length ≤ 1000000000) :
    CallsV Try.prog 25 #[.int .i64 n, v, .int .i64 now] w0 (.tuple #[.agg (firstI n l now).1.enc.toArray, .bool (firstI n l now).2]) := by
  have S := St.start w0
  refine CallsV.mk ?_
  refine calls_enter Try.func25 rfl (by intro _ h; first | exact nomatch h.1 | (obtain ⟨_, h, _⟩ := h; exact nomatch h)) Try.ntmps25 rfl ?_
  repeat' (first | refine WP_seq ?_ | refine WP_region ?_ | refine wl_nil ?_ | refine then_normal ?_ | (refine g_move ?_; refine st_move rfl ?_) | (refine g_assign ?_; refine st_assign rfl ?_) | (refine g_alloc ?_; refine st_valE rfl (r_alloc S) ?_; rintro _ w ⟨b, rfl, -, S'⟩; replace S := S'; clear S'))
  refine st_callR rfl (r_call3 rfl rfl rfl rfl) (claims_run hn (hr.mono S.below) hl) ?_
  rintro v w hb ⟨u, rfl, hrow⟩
  replace S := S.new hb hrow
  clear hb hrow
  unfold firstI
  have hcl := claims_len (n := n) (l := l) (now := now)
  generalize claimsI n l now = cl at S hcl ⊢
  obtain ⟨A, c, hv⟩ := (S.rdRow (D := fGClaim) (i := 1) rfl).len
  subst hv
  cases cl with
  | nil =>
    repeat' (first | refine WP_seq ?_ | refine WP_region ?_ | refine wl_nil ?_ | refine then_normal ?_ | refine then_ret ?_ | refine WP_ret ?_ | refine WP_condT rfl ?_ | (refine g_move ?_; refine st_move rfl ?_) | (refine g_assign ?_; refine st_assign rfl ?_) | (refine g_b_eql ?_; refine st_val rfl (r_eql rfl rfl) ?_) | (refine g_build ?_; refine st_val rfl (bd39_ ) ?_) | (refine g_extract ?_; refine st_val rfl (r_extract rfl rfl) ?_) | (refine g_c_len ?_; refine st_val rfl (r_lenSlice rfl) ?_) | (refine g_store ?_; (refine st_skipE rfl (r_storeVar (i := 0) S rfl rfl rfl rfl (of_decide_eq_true rfl) (of_decide_eq_true rfl)) ?_; intro w S'; replace S := S'; clear S')))
    exact endCT (T := 39) (sz := 4) (i := 0) (cs := GClaim.enc ⟨0, 0, 0, 0⟩) rfl rfl rfl S rfl rfl ⟨rfl, S.below⟩
  | cons x q =>
    have hlen : (0 : Int) < ((x :: q).length : Int) := by rw [List.length_cons]; omega
    repeat' (first | refine WP_seq ?_ | refine WP_region ?_ | refine wl_nil ?_ | refine then_normal ?_ | refine WP_ret ?_ | refine WP_skip ?_ | refine WP_condF rfl ?_ | (refine g_move ?_; refine st_move rfl ?_) | (refine g_assign ?_; refine st_assign rfl ?_) | (refine g_b_eql ?_; refine st_val rfl (r_eql rfl rfl) ?_) | (refine g_extract ?_; refine st_val rfl (r_extract rfl rfl) ?_) | (refine g_c_len ?_; refine st_val rfl (r_lenSlice rfl) ?_) | (refine g_indexAddr ?_; (refine st_val rfl (r_indexAddr (S.rdRow (D := fGClaim) (i := 1) rfl) rfl rfl ?_ ?_) ?_; (first | omega | (simp <;> omega)); (first | omega | (simp <;> omega)))) | (refine g_load ?_; (refine st_val rfl (r_loadElem (S.rdRow (D := fGClaim) (i := 1) rfl) rfl ?_ ?_) ?_; (first | omega | (simp <;> omega)); (first | omega | (simp <;> omega)))) | (refine g_store ?_; (refine st_skipE rfl (r_storeVar (i := 0) S rfl rfl rfl rfl (of_decide_eq_true rfl) (of_decide_eq_true rfl)) ?_; intro w S'; replace S := S'; clear S')))
    exact endCT (T := 39) (sz := 4) (i := 0) (cs := GClaim.enc x) rfl rfl rfl S rfl rfl ⟨rfl, S.below⟩
theorem clone_run {a : Addr} {c : Nat} {l : List Int} {w0 : World} (hr : Rd (fInt .i64).ty w0 (.slice (some a) l.length c) l) (hl : l.length ≤ 100000) :
    CallsR Try.prog 40 #[.slice (some a) l.length c] w0 (fun v w' => NewRow (fInt .i64) 3 w0 w' v l) := by
  have S := St.start w0
  refine CallsR.mk ?_
  refine calls_enter Try.func40 rfl (by intro _ h; first | exact nomatch h.1 | (obtain ⟨_, h, _⟩ := h; exact nomatch h)) Try.ntmps40 rfl ?_
  repeat' (first | refine WP_seq ?_ | refine WP_region ?_ | refine wl_nil ?_ | refine then_normal ?_ | refine WP_skip ?_ | refine WP_condF rfl ?_ | (refine g_move ?_; refine st_move rfl ?_) | (refine g_assign ?_; refine st_assign rfl ?_) | (refine g_b_eql ?_; refine st_val rfl (r_eqlNil rfl rfl) ?_))
  refine st_valE rfl (r_lit0 (D := fInt .i64) S) ?_
  rintro v w ⟨_, S'⟩
  replace S := S'
  clear S'
  repeat' ((refine g_move ?_; refine st_move rfl ?_))
  refine st_valE rfl (r_appendRd (i := 0) (D := fInt .i64) S rfl (hr.mono S.below) rfl rfl rfl (by decide) (by intro x u hu; cases List.mem_singleton.1 hu; rfl) (by simp; omega) (by simp; omega)) ?_
  rintro v' w ⟨_, S'⟩
  replace S := S'
  clear S'
  repeat' (first | refine wl_nil ?_ | refine then_normal ?_ | refine WP_ret ?_ | (refine g_assign ?_; refine st_assign rfl ?_))
  exact end1 rfl rfl ⟨_, rfl, S.below, S.row (i := 0) rfl⟩
def totI (n : Int) (l : List GAppearance) (now : Int) : List Int := if okA n l now = true then (hadAt l now l.length).take n.toNat else []
def totG (n : Int) (l : List GAppearance) (now : Int) (w : World) (v : Value) (w' : World) : Prop := ∃ u, v = .tuple #[u, .int .i64 (errI n l now)] ∧ NewRow (fInt .i64) 3 w w' u (totI n l now)
theorem totals_run {n now : Int} {v : Value} {l : List GAppearance} {w0 : World} (hn : -9223372036854775808 ≤ n ∧ n ≤ 9223372036854775807) (hr : Rd fGAppearance.ty w0 v l) (hl : l.length ≤ 1000000000) :
    CallsR Try.prog 23 #[.int .i64 n, v, .int .i64 now] w0 (totG n l now w0) := by
  have S := St.start w0
  refine CallsR.mk ?_
  refine calls_enter Try.func23 rfl (by intro _ h; first | exact nomatch h.1 | (obtain ⟨_, h, _⟩ := h; exact nomatch h)) Try.ntmps23 rfl ?_
  repeat' (first | refine WP_seq ?_ | refine WP_region ?_ | refine wl_nil ?_ | refine then_normal ?_ | (refine g_move ?_; refine st_move rfl ?_) | (refine g_assign ?_; refine st_assign rfl ?_))
  refine st_callR rfl (r_call3 rfl rfl rfl rfl) (open_run hn (hr.mono S.below) hl) ?_
  rintro v w hb ho
  rcases ho with ⟨hok, rfl⟩ | ⟨hok, b, vs, obs, rfl, S', hq⟩
  · replace S := S.grow hb
    repeat' (first | refine WP_seq ?_ | refine WP_region ?_ | refine wl_nil ?_ | refine then_normal ?_ | refine then_ret ?_ | refine WP_ret ?_ | refine WP_condT rfl ?_ | (refine g_move ?_; refine st_move rfl ?_) | (refine g_assign ?_; refine st_assign rfl ?_) | (refine g_b_neq ?_; refine st_val rfl (r_neq rfl rfl) ?_) | (refine g_extract ?_; refine st_val rfl (r_extract rfl rfl) ?_))
    have he : errI n l now = 130 := by unfold errI; rw [if_neg (by simp [hok])]
    have hcl : totI n l now = [] := by unfold totI; rw [if_neg (by simp [hok])]
    refine end2 rfl rfl rfl ⟨_, rfl, S.below, .slice none 0 0, ?_, ?_⟩
    · rw [he]; rfl
    · rw [hcl]; exact NewRow.nil (fInt .i64) 3 _ _
  · replace S : St w0 w (.var b 65 (accC (hadAt l now l.length) n vs) :: obs) := S'
    clear S' hb
    have hvd : validA n l = true := by unfold okA at hok; simp only [Bool.and_eq_true] at hok; exact hok.1
    have hva := valid_at hvd
    have he : errI n l now = 0 := by unfold errI; rw [if_pos hok]
    have hcl : totI n l now = (hadAt l now l.length).take n.toNat := by unfold totI; rw [if_pos hok]
    have hlen : ((hadAt l now l.length).take n.toNat).length = n.toNat := by rw [List.length_take, hadAt_len]; omega
    have hrd : Rd (fInt .i64).ty w (.slice (some ⟨b, 0 + 0 + 0, none⟩) ((hadAt l now l.length).take n.toNat).length 8) ((hadAt l now l.length).take n.toNat) :=
      Rd.ofCells (D := fInt .i64) (o := 0 + 0 + 0) (c := 8) (l := (hadAt l now l.length).take n.toNat) (S.var (i := 0) rfl) (by omega) (fun j u hj => by
        have e : fl (fInt .i64) ((hadAt l now l.length).take n.toNat) = ((hadAt l now l.length).take n.toNat).map fun x => Value.int .i64 x := by
          unfold fl; rw [List.map_eq_flatMap]; rfl
        rw [e, List.getElem?_map] at hj
        cases hx : ((hadAt l now l.length).take n.toNat)[j]? with
        | none => rw [hx] at hj; cases hj
        | some x =>
          rw [hx] at hj
          have hx2 : (hadAt l now l.length)[j]? = some x := by
            rw [List.getElem?_take] at hx; split at hx
            · exact hx
            · cases hx
          have := accC_had (n := n) (vs := vs) hx2
          rw [show 0 + 0 + 0 + j = j by omega, this]; exact hj)
    have hcr := clone_run hrd (by omega)
    rw [hlen] at hcr
    repeat' (first | refine WP_seq ?_ | refine WP_region ?_ | refine wl_nil ?_ | refine then_normal ?_ | refine WP_skip ?_ | refine WP_condF rfl ?_ | (refine g_move ?_; refine st_move rfl ?_) | (refine g_assign ?_; refine st_assign rfl ?_) | (refine g_b_neq ?_; refine st_val rfl (r_neq rfl rfl) ?_) | (refine g_nilCheck ?_; refine st_val rfl (r_nilCheck rfl) ?_) | (refine g_extract ?_; refine st_val rfl (r_extract rfl rfl) ?_) | (refine g_fieldAddr ?_; refine st_val rfl (r_fieldAddrL rfl) ?_) | (refine st_val rfl (r_sliceArrHi rfl rfl (by omega) (by omega) (by omega)) ?_))
    refine st_callR rfl (r_call1 rfl rfl) hcr ?_
    rintro u w hb hrow
    replace S := (S.new hb hrow).front
    repeat' (first | refine wl_nil ?_ | refine then_normal ?_ | refine WP_ret ?_ | (refine g_assign ?_; refine st_assign rfl ?_))
    refine end2 rfl rfl rfl ⟨_, rfl, S.below, u, ?_, ?_⟩
    · rw [he]; rfl
    · rw [hcl]; exact S.row (i := 0) rfl
def sumR : List GClaim → Int
  | [] => 0
  | c :: q => c.Rest + sumR q
theorem sumR_append : ∀ (a b : List GClaim), sumR (a ++ b) = sumR a + sumR b
  | [], b => by simp [sumR]
  | c :: a, b => by simp only [List.cons_append, sumR, sumR_append a b]; omega
theorem sumR_bound : ∀ (q : List GClaim), (∀ c ∈ q, 1 ≤ c.Rest ∧ c.Rest ≤ 36000) → 0 ≤ sumR q ∧ sumR q ≤ 36000 * q.length
  | [], _ => by simp [sumR]
  | c :: q, h => by
    have h1 := h c (List.mem_cons_self ..)
    have h2 := sumR_bound q (fun x hx => h x (List.mem_cons_of_mem _ hx))
    simp only [sumR, List.length_cons]; omega
theorem sumR_take {q : List GClaim} {i : Nat} {x : GClaim} (h : q[i]? = some x) : sumR (q.take (i + 1)) = sumR (q.take i) + x.Rest := by
  rw [List.take_add_one, h, sumR_append]; simp [sumR]
def sumsI (n : Int) (qs : Nat → List GClaim) : List Int := (List.range n.toNat).map fun k => sumR (qs k)
def oweI (n : Int) (l : List GAppearance) (now : Int) : List Int := if okA n l now = true then sumsI n (fun k => byC k (claimsI n l now)) else []
def oweG (n : Int) (l : List GAppearance) (now : Int) (w : World) (v : Value) (w' : World) : Prop := ∃ u, v = .tuple #[u, .int .i64 (errI n l now)] ∧ NewRow (fInt .i64) 3 w w' u (oweI n l now)
/-- Sums of the first i queues, and of the first m claims of the next one. -/
def partS (n : Nat) (qs : Nat → List GClaim) (i m : Nat) : List Int := (List.range n).map fun k => if k < i then sumR (qs k) else if k = i then sumR ((qs k).take m) else 0
theorem partS_len {n : Nat} {qs : Nat → List GClaim} {i m : Nat} : (partS n qs i m).length = n := by unfold partS; simp
theorem partS_get {n : Nat} {qs : Nat → List GClaim} {i m k : Nat} (h : k < n) : (partS n qs i m)[k]? = some (if k < i then sumR (qs k) else if k = i then sumR ((qs k).take m) else 0) := by
  unfold partS; rw [List.getElem?_map, List.getElem?_range h]; rfl
theorem partS_set {n : Nat} {qs : Nat → List GClaim} {i m : Nat} {x : GClaim} (h : i < n) (hx : (qs i)[m]? = some x) : (partS n qs i m).set i (sumR ((qs i).take m) + x.Rest) = partS n qs i (m + 1) := by
  apply List.ext_getElem?
  intro k
  by_cases hk : k < n
  · by_cases e : i = k
    · subst e
      rw [List.getElem?_set_self (by rw [partS_len]; exact h), partS_get h, if_neg (by omega), if_pos rfl, sumR_take hx]
    · rw [List.getElem?_set_ne e, partS_get hk, partS_get hk, if_neg (c := k = i) (by omega), if_neg (c := k = i) (by omega)]
  · rw [List.getElem?_eq_none (by rw [List.length_set, partS_len]; omega), List.getElem?_eq_none (by rw [partS_len]; omega)]
theorem partS_next {n : Nat} {qs : Nat → List GClaim} {i m : Nat} (hm : (qs i).length ≤ m) : partS n qs i m = partS n qs (i + 1) 0 := by
  unfold partS
  refine List.map_congr_left fun k _ => ?_
  by_cases h1 : k < i
  · rw [if_pos h1, if_pos (by omega)]
  · rw [if_neg h1]
    by_cases h2 : k = i
    · subst h2; rw [if_pos rfl, if_pos (by omega), List.take_of_length_le hm]
    · rw [if_neg h2, if_neg (by omega)]; split
      · rw [List.take_zero]; rfl
      · rfl
theorem partS_zero {n : Nat} {qs : Nat → List GClaim} : partS n qs 0 0 = List.replicate n 0 := by
  unfold partS
  rw [List.eq_replicate_iff]
  refine ⟨by simp, fun b hb => ?_⟩
  obtain ⟨k, _, rfl⟩ := List.mem_map.1 hb
  rw [if_neg (by omega)]; split
  · rw [List.take_zero]; rfl
  · rfl
theorem partS_all {n : Nat} {qs : Nat → List GClaim} {m : Nat} : partS n qs n m = (List.range n).map fun k => sumR (qs k) := by
  unfold partS
  refine List.map_congr_left fun k hk => ?_
  rw [if_pos (List.mem_range.1 hk)]
end Go.Proofs.Ytcbidfedffegpaa
