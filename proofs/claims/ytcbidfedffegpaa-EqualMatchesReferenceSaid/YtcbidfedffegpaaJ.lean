import Derived.Test.YtcbidfedffegpaaI
namespace Go.Proofs.Ytcbidfedffegpaa
open Go Go.Gx Go.RowKit
set_option linter.unusedVariables false
set_option linter.unusedSimpArgs false
theorem idxF_cases {α : Type} (p : α → Bool) (l : List α) : (idxF p l = -1 ∧ ∀ x ∈ l, p x = false) ∨ ∃ (i : Nat) (x : α), idxF p l = (i : Int) ∧ l[i]? = some x ∧ p x = true ∧ ∀ j y, j < i → l[j]? = some y → p y = false := by
  cases h : l.findIdx? p with
  | none => left; refine ⟨by simp [idxF, h], ?_⟩; rw [List.findIdx?_eq_none_iff] at h; exact h
  | some i =>
    right
    rw [List.findIdx?_eq_some_iff_getElem] at h
    obtain ⟨hlt, hp, hn⟩ := h
    refine ⟨i, l[i], ?_, List.getElem?_eq_getElem hlt, hp, fun j y hj hy => ?_⟩
    · have : l.findIdx? p = some i := by rw [List.findIdx?_eq_some_iff_getElem]; exact ⟨hlt, hp, hn⟩
      simp [idxF, this]
    · have hjl : j < l.length := by omega
      rw [List.getElem?_eq_getElem hjl] at hy
      cases hy
      have := hn j hj
      simpa using this
theorem indexFuncO_spec {g : FuncId} [Go.Gx.Enters Try.prog g] {cl : List Value} {p : GClaim → Bool} {v : Value} {l : List GClaim} {w : World} (hr : Rd fGClaim.ty w v l) (hl : l.length ≤ 1000000000)
    (hp : ∀ x w', Below w.heap.size w w' → CallsV Try.prog g (.agg (GClaim.enc x).toArray :: cl).toArray w' (.bool (p x))) :
    CallsV Try.prog 46 #[v, .func (.func g) #[] cl.toArray] w (.int .i64 (idxF p l)) := by
  have S := St.start w
  obtain ⟨A, c, rfl⟩ := hr.len
  refine CallsV.mk ?_
  refine calls_enter Try.func46 rfl (by intro _ h; first | exact nomatch h.1 | (obtain ⟨_, h, _⟩ := h; exact nomatch h)) Try.ntmps46 rfl ?_
  repeat' (first | refine WP_seq ?_ | refine WP_region ?_ | refine wl_nil ?_ | refine then_normal ?_ | refine WP_block ?_ | (refine g_move ?_; refine st_move rfl ?_) | (refine g_assign ?_; refine st_assign rfl ?_) | (refine g_c_len ?_; refine st_val rfl (r_lenSlice rfl) ?_))
  refine WP_loop (fun k σ w1 => ∃ i : Int, Has σ [(0, .slice A l.length c), (1, .func (.func g) #[] cl.toArray), (7, .int .i64 l.length), (8, .int .i64 i)] ∧ St w w1 [] ∧ 0 ≤ i ∧ i ≤ l.length ∧ k = l.length - i.toNat ∧ ∀ j, j < i.toNat → ∀ x, l[j]? = some x → p x = false) l.length ⟨0, ⟨rfl, rfl, rfl, rfl, trivial⟩, S, by omega, by omega, by omega, fun j hj => by omega⟩ ?_
  rintro k σ w1 ⟨i, hs, S, hi0, hi1, rfl, hnone⟩
  refine WP_has hs ?_
  repeat' (first | refine WP_seq ?_ | refine WP_region ?_ | refine wl_nil ?_ | refine then_normal ?_ | refine inB_normal ?_ | refine then_exit ?_ | refine inB_here ?_ | refine then_ret ?_ | refine inB_ret ?_ | refine WP_ret ?_ | refine WP_skip ?_ | refine WP_exit ?_ | refine WP_block ?_ | (refine g_move ?_; refine st_move rfl ?_) | (refine g_assign ?_; refine st_assign rfl ?_) | (refine g_b_add ?_; (refine st_val rfl (r_addN rfl rfl ?_ ?_) ?_; (first | omega | (simp <;> omega)); (first | omega | (simp <;> omega)))) | (refine g_b_lss ?_; refine st_val rfl (r_lss rfl rfl) ?_) | (refine g_indexAddr ?_; (refine st_val rfl (r_indexAddr (hr.mono S.below) rfl rfl ?_ ?_) ?_; (first | omega | (simp <;> omega)); (first | omega | (simp <;> omega)))) | (refine g_load ?_; (refine st_val rfl (r_loadElem (hr.mono S.below) rfl ?_ ?_) ?_; (first | omega | (simp <;> omega)); (first | omega | (simp <;> omega)))) | (refine g_callV ?_; (refine st_callV rfl (r_call1 rfl rfl) ((hp _ _ S.below)) ?_; intro w hb; replace S := S.grow hb; clear hb)) | (refine WP_cond rfl (fun h => ?_) (fun h => ?_) <;> (fail_if_success (have hh : true = true := h)) <;> (fail_if_success (have hh : false = false := h)) <;> (try simp only [decide_eq_true_eq, decide_eq_false_iff_not, Bool.not_eq_true', Bool.not_eq_false', Int.not_lt, Int.not_le] at h) <;> (try (exfalso; omega))))
  · refine end1 rfl rfl ⟨ri ?_, S.below⟩
    exact (idxF_hit hnone (nth_get (by omega) (by omega)) h (by omega)).symm
  · refine ⟨⟨_, ?_, i + 1, ⟨rfl, rfl, rfl, rfl, trivial⟩, S, by omega, by omega, rfl, fun j hj x hx => ?_⟩⟩
    · omega
    · by_cases e : j = i.toNat
      · subst e; rw [nth_get (by omega) (by omega)] at hx; cases hx; exact h
      · exact hnone j (by omega) x hx
  · refine end1 rfl rfl ⟨ri ?_, S.below⟩
    exact (idxF_none fun x hx => by
      obtain ⟨j, hj⟩ := List.getElem?_of_mem hx
      exact hnone j (by have := List.getElem?_eq_some_iff.1 hj; obtain ⟨hlt, _⟩ := this; omega) x hj).symm


theorem over1_spec {b5 : Nat} {now : Int} {c : GClaim} {w : World} (h : CellsAt w ⟨b5, 0, none⟩ [.int .i64 now]) :
    CallsV Try.prog 39 #[.agg c.enc.toArray, .pointer (some ⟨b5, 0, none⟩)] w (.bool (decide (now ≤ c.Until))) := by
  have S := St.start w
  refine CallsV.mk ?_
  refine calls_enter Try.func39 rfl (by intro _ h; first | exact nomatch h.1 | (obtain ⟨_, h, _⟩ := h; exact nomatch h)) Try.ntmps39 rfl ?_
  repeat' (first | refine WP_seq ?_ | refine WP_region ?_ | refine wl_nil ?_ | refine then_normal ?_ | refine WP_ret ?_ | (refine g_assign ?_; refine st_assign rfl ?_) | (refine g_b_geq ?_; refine st_val rfl (r_geq rfl rfl) ?_) | (refine g_fieldAddr ?_; refine st_val rfl (r_fieldAddrL rfl) ?_) | (refine g_load ?_; first | refine st_val rfl (r_loadAt (h.mono S.below) rfl rfl) ?_ | refine st_val rfl (r_loadVar (i := 0) S rfl rfl rfl) ?_) | (refine g_box ?_; refine st_valE rfl (r_box S rfl) ?_; rintro _ w ⟨b, rfl, -, S'⟩; replace S := S'; clear S'))
  exact end1 rfl rfl ⟨rfl, S.below⟩
def kept (now : Int) (l : List GClaim) : List GClaim := l.filter fun c => decide (c.Until < now)
theorem kept_snoc {now : Int} {l : List GClaim} {j : Nat} {x : GClaim} (hx : l[j]? = some x) : kept now (l.take (j + 1)) = kept now (l.take j) ++ (if x.Until < now then [x] else []) := by
  unfold kept
  rw [List.take_add_one, hx, List.filter_append]
  by_cases h : x.Until < now
  · simp [h]
  · simp [h]
theorem delete_run {b5 : Nat} {now : Int} {v : Value} {l : List GClaim} {w0 w : World} (S : St w0 w [rowOb fGClaim 39 v l, .var b5 3 [.int .i64 now]]) (hl : l.length ≤ 100000) :
    CallsW Try.prog 38 #[v, .func (.func 39) #[] [.pointer (some ⟨b5, 0, none⟩)].toArray] w (fun u w' => St w0 w' [rowOb fGClaim 39 u (kept now l)]) := by
  obtain ⟨A, c, hv⟩ := (S.rdRow (D := fGClaim) (i := 0) rfl).len
  subst hv
  have hcl := S.var (i := 1) rfl
  have hrange : -1 ≤ idxF (fun c : GClaim => decide (now ≤ c.Until)) l ∧ idxF (fun c : GClaim => decide (now ≤ c.Until)) l ≤ l.length := by
    rcases idxF_cases (fun c : GClaim => decide (now ≤ c.Until)) l with ⟨e, _⟩ | ⟨i, x, e, hix, _⟩
    · omega
    · have := (List.getElem?_eq_some_iff.1 hix).1; omega
  refine CallsW.mk ?_
  refine calls_enter Try.func38 rfl (by intro _ h; first | exact nomatch h.1 | (obtain ⟨_, h, _⟩ := h; exact nomatch h)) Try.ntmps38 rfl ?_
  repeat' (first | refine WP_seq ?_ | refine WP_region ?_ | refine wl_nil ?_ | refine then_normal ?_ | refine then_ret ?_ | refine WP_ret ?_ | refine WP_skip ?_ | refine WP_block ?_ | (refine g_move ?_; refine st_move rfl ?_) | (refine g_assign ?_; refine st_assign rfl ?_) | (refine g_b_add ?_; (refine st_val rfl (r_addN rfl rfl ?_ ?_) ?_; (first | omega | (simp <;> omega)); (first | omega | (simp <;> omega)))) | (refine g_b_eql ?_; refine st_val rfl (r_eql rfl rfl) ?_) | (refine g_callV ?_; (refine st_callV rfl (r_call2 rfl rfl rfl) (indexFuncO_spec (cl := [.pointer (some ⟨b5, 0, none⟩)]) (p := fun c => decide (now ≤ c.Until)) (S.rdRow (D := fGClaim) (i := 0) rfl) (by omega) (fun x w' hb => over1_spec ((S.var (i := 1) rfl).mono hb))) ?_; intro w hb; replace S := S.grow hb; clear hb)) | (refine WP_cond rfl (fun h => ?_) (fun h => ?_) <;> (fail_if_success (have hh : true = true := h)) <;> (fail_if_success (have hh : false = false := h)) <;> (try simp only [decide_eq_true_eq, decide_eq_false_iff_not, Bool.not_eq_true', Bool.not_eq_false', Int.not_lt, Int.not_le] at h) <;> (try (exfalso; omega))))
  · rcases idxF_cases (fun c : GClaim => decide (now ≤ c.Until)) l with ⟨e, hall⟩ | ⟨i, x, e, _⟩
    · have ek : kept now l = l := by
        unfold kept; rw [List.filter_eq_self]; intro c hc; have := hall c hc; rw [decide_eq_false_iff_not] at this; rw [decide_eq_true_eq]; omega
      have S2 : St w0 w [rowOb fGClaim 39 (.slice A l.length c) (kept now l)] := by rw [ek]; exact S.sub (List.sublist_append_left [_] [_])
      exact end1 rfl rfl ⟨_, rfl, S2⟩
    · omega
  rcases idxF_cases (fun c : GClaim => decide (now ≤ c.Until)) l with ⟨e, _⟩ | ⟨i, x, e, hix, hpx, hall⟩
  · omega
  have hil := (List.getElem?_eq_some_iff.1 hix).1
  rw [decide_eq_true_eq] at hpx
  have ek : kept now (l.take (i + 1)) = l.take i := by
    rw [kept_snoc hix, if_neg (by omega), List.append_nil]
    unfold kept
    rw [List.filter_eq_self]
    intro c hc
    obtain ⟨j, hj⟩ := List.getElem?_of_mem hc
    have hji : j < i := by
      rcases Nat.lt_or_ge j i with h | h
      · exact h
      · rw [List.getElem?_take_eq_none h] at hj; cases hj
    rw [List.getElem?_take_of_lt hji] at hj
    have := hall j c hji hj
    rw [decide_eq_false_iff_not] at this; rw [decide_eq_true_eq]; omega
  refine WP_loop (fun k σ w1 => ∃ (i j : Int) (ct : List GClaim), Has σ [(0, .slice A l.length c), (1, .func (.func 39) #[] [.pointer (some ⟨b5, 0, none⟩)].toArray), (5, .int .i64 i), (6, .int .i64 j)] ∧ St w0 w1 [rowOb fGClaim 39 (.slice A l.length c) ct, .var b5 3 [.int .i64 now]] ∧ ct.length = l.length ∧ 0 ≤ i ∧ i < j ∧ j ≤ l.length ∧ ct.take i.toNat = kept now (l.take j.toNat) ∧ ct.drop j.toNat = l.drop j.toNat ∧ k = l.length - j.toNat) (l.length - (i + 1))
    ⟨idxF (fun c : GClaim => decide (now ≤ c.Until)) l, idxF (fun c : GClaim => decide (now ≤ c.Until)) l + 1, l, ⟨rfl, rfl, rfl, rfl, trivial⟩, S, rfl, by omega, by omega, by omega, by rw [e, show ((i : Int) + 1).toNat = i + 1 by omega, ek]; rfl, rfl, by omega⟩ ?_
  clear S hix hall hil ek e hpx
  rintro k σ w1 ⟨i, j, ct, hs', S, hlen, hi0, hij, hjl, htk, hdr, rfl⟩
  refine WP_has hs' ?_
  have htl := congrArg List.length htk
  rw [List.length_take] at htl
  by_cases hj : j < l.length
  · have hgx : l[j.toNat]? = some (nth ct j) := by
      have h1 := congrArg (fun z : List GClaim => z[0]?) hdr
      simp only [List.getElem?_drop, Nat.add_zero] at h1
      rw [← h1]; exact nth_get (by omega) (by omega)
    have hsn := kept_snoc (now := now) hgx
    have ej : (j + 1).toNat = j.toNat + 1 := by omega
    have hdr2 : ct.drop (j.toNat + 1) = l.drop (j.toNat + 1) := by
      have := congrArg (List.drop 1) hdr
      rwa [List.drop_drop, List.drop_drop] at this
    repeat' (first | refine WP_seq ?_ | refine WP_region ?_ | refine wl_nil ?_ | refine then_normal ?_ | refine inB_normal ?_ | refine WP_skip ?_ | refine WP_block ?_ | (refine g_move ?_; refine st_move rfl ?_) | (refine g_assign ?_; refine st_assign rfl ?_) | (refine g_b_add ?_; (refine st_val rfl (r_addN rfl rfl ?_ ?_) ?_; (first | omega | (simp <;> omega)); (first | omega | (simp <;> omega)))) | (refine g_b_lss ?_; refine st_val rfl (r_lss rfl rfl) ?_) | (refine g_un ?_; refine st_val rfl (r_not rfl) ?_) | (refine g_c_len ?_; refine st_val rfl (r_lenSlice rfl) ?_) | (refine g_indexAddr ?_; (refine st_val rfl (r_indexAddr (S.rdRow (D := fGClaim) (i := 0) rfl) rfl rfl ?_ ?_) ?_; (first | omega | (simp <;> omega)); (first | omega | (simp <;> omega)))) | (refine g_load ?_; first | (refine st_val rfl (r_loadElem (S.rdRow (D := fGClaim) (i := 0) rfl) rfl ?_ ?_) ?_; (first | omega | (simp <;> omega)); (first | omega | (simp <;> omega))) | refine st_val rfl (r_loadVarA (i := 2) S rfl rfl rfl rfl) ?_) | (refine g_callV ?_; (refine st_callV rfl (r_call1 rfl rfl) (over1_spec (c := nth ct j) (S.var (i := 1) rfl)) ?_; intro w hb; replace S := S.grow hb; clear hb)) | (refine g_alloc ?_; refine st_valE rfl (r_alloc S) ?_; rintro _ w ⟨b, rfl, -, S'⟩; replace S := S'; clear S') | (refine g_store ?_; first | (refine st_skipE rfl (r_storeVar (i := 0) S rfl rfl rfl rfl (of_decide_eq_true rfl) (of_decide_eq_true rfl)) ?_; intro w S'; replace S := S'; clear S') | (refine st_skipE rfl (r_storeVar (i := 1) S rfl rfl rfl rfl (of_decide_eq_true rfl) (of_decide_eq_true rfl)) ?_; intro w S'; replace S := S'; clear S') | (refine st_skipE rfl (r_storeVar (i := 2) S rfl rfl rfl rfl (of_decide_eq_true rfl) (of_decide_eq_true rfl)) ?_; intro w S'; replace S := S'; clear S')) | (refine WP_cond rfl (fun h => ?_) (fun h => ?_) <;> (fail_if_success (have hh : true = true := h)) <;> (fail_if_success (have hh : false = false := h)) <;> (try simp only [decide_eq_true_eq, decide_eq_false_iff_not, Bool.not_eq_true', Bool.not_eq_false', Int.not_lt, Int.not_le] at h) <;> (try (exfalso; omega))))
    · refine g_store ?_
      refine st_skipE rfl (r_storeElem (i := 0) (D := fGClaim) (x := nth ct j) S rfl rfl rfl rfl (fun u hu => by simp [fGClaim, GClaim.enc] at hu; rcases hu with rfl | rfl | rfl | rfl <;> rfl) hi0 (by omega)) ?_
      intro w S'
      replace S := S'.keep [true, true, false]
      clear S'
      repeat' (first | refine WP_region ?_ | refine wl_nil ?_ | refine then_normal ?_ | refine inB_normal ?_ | (refine g_move ?_; refine st_move rfl ?_) | (refine g_assign ?_; refine st_assign rfl ?_) | (refine g_b_add ?_; (refine st_val rfl (r_addN rfl rfl ?_ ?_) ?_; (first | omega | (simp <;> omega)); (first | omega | (simp <;> omega)))))
      refine ⟨⟨_, ?_, i + 1, j + 1, ct.set i.toNat (nth ct j), ⟨rfl, rfl, rfl, rfl, trivial⟩, S, by rw [List.length_set]; exact hlen, by omega, by omega, by omega, ?_, ?_, rfl⟩⟩
      · omega
      · rw [ej, hsn, if_pos (by omega), ← htk, show (i + 1).toNat = i.toNat + 1 by omega, List.set_eq_take_append_cons_drop, if_pos (by omega), List.take_append, List.take_of_length_le (by rw [List.length_take]; omega), List.length_take, show i.toNat + 1 - min i.toNat ct.length = 1 by omega]; rfl
      · rw [ej, List.drop_set_of_lt (by omega), hdr2]
    · refine ⟨⟨_, ?_, i, j + 1, ct, ⟨rfl, rfl, rfl, rfl, trivial⟩, S.keep [true, true, false], hlen, by omega, by omega, by omega, ?_, ?_, rfl⟩⟩
      · omega
      · rw [ej, hsn, if_neg (by omega), List.append_nil, htk]
      · rw [ej, hdr2]
  · have ejl : j = l.length := by omega
    repeat' (first | refine WP_seq ?_ | refine WP_region ?_ | refine wl_nil ?_ | refine then_normal ?_ | refine then_exit ?_ | refine inB_here ?_ | refine WP_exit ?_ | (refine g_move ?_; refine st_move rfl ?_) | (refine g_b_lss ?_; refine st_val rfl (r_lss rfl rfl) ?_) | (refine g_c_len ?_; refine st_val rfl (r_lenSlice rfl) ?_) | (refine st_val rfl (r_sliceLo (S.rdRow (D := fGClaim) (i := 0) rfl) rfl rfl hi0 (by omega)) ?_) | (refine WP_cond rfl (fun h => ?_) (fun h => ?_) <;> (fail_if_success (have hh : true = true := h)) <;> (fail_if_success (have hh : false = false := h)) <;> (try simp only [decide_eq_true_eq, decide_eq_false_iff_not, Bool.not_eq_true', Bool.not_eq_false', Int.not_lt, Int.not_le] at h) <;> (try (exfalso; omega))))
    refine st_valE rfl (r_clearTail (D := fGClaim) (i := 0) (k := i.toNat) ⟨0, 0, 0, 0⟩ S rfl (by omega) rfl rfl (by decide) (fun u hu => by simp [fGClaim, GClaim.enc] at hu; rcases hu with rfl | rfl | rfl | rfl <;> rfl)) ?_
    rintro _ w S'
    replace S := S'
    clear S'
    repeat' (first | refine WP_seq ?_ | refine WP_region ?_ | refine wl_nil ?_ | refine then_normal ?_ | refine WP_ret ?_ | (refine g_move ?_; refine st_move rfl ?_) | (refine g_assign ?_; refine st_assign rfl ?_) | (refine st_val rfl (r_sliceHi (S.rdRow (D := fGClaim) (i := 0) rfl) rfl rfl hi0 (by simp; omega)) ?_))
    have hrow := row_take (D := fGClaim) (T := 39) (k := i.toNat) (S.ok _ (List.mem_cons_self ..)) (by simp; omega)
    have e : (ct.take i.toNat ++ List.replicate (ct.length - i.toNat) (⟨0, 0, 0, 0⟩ : GClaim)).take i.toNat = kept now l := by
      rw [ejl, Int.toNat_natCast, List.take_length] at htk
      have hlt : (ct.take i.toNat).length = i.toNat := by rw [List.length_take]; omega
      rw [List.take_append, hlt, Nat.sub_self, List.take_zero, List.append_nil, List.take_take, Nat.min_self, htk]
    rw [e] at hrow
    refine end1 rfl rfl ⟨_, rfl, ⟨S.below, fun o ho => ?_, List.pairwise_singleton _ _⟩⟩
    rw [List.mem_singleton.1 ho]; exact hrow
end Go.Proofs.Ytcbidfedffegpaa
