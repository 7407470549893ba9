import Derived.Test.YtfdjnadopniaeaaF
namespace Go.Proofs.Ytfdjnadopniaeaa
open Go Go.Gx Go.RowKit
set_option linter.unusedVariables false
set_option linter.unusedSimpArgs false

def cutG (item t : Int) (g : GGrant) : GGrant := if g.Item = item then { g with Window := ⟨g.Window.From, min g.Window.To t⟩ } else g
def liveG (g : GGrant) : Bool := decide (g.Window.From < g.Window.To)
def wdN (l : List GGrant) (item t : Int) (n : Nat) : List GGrant := ((l.take n).map (cutG item t)).filter liveG
theorem wdN_succ {l : List GGrant} {item t i : Int} (h0 : 0 ≤ i) (h1 : i < l.length) : wdN l item t (i + 1).toNat = if liveG (cutG item t (nth l i)) = true then wdN l item t i.toNat ++ [cutG item t (nth l i)] else wdN l item t i.toNat := by
  unfold wdN
  rw [take_nth h0 h1, List.map_append, List.filter_append]
  by_cases h : liveG (cutG item t (nth l i)) = true
  · simp [h]
  · simp [h]
theorem wdN_len (l : List GGrant) (item t : Int) (n : Nat) : (wdN l item t n).length ≤ n := by
  unfold wdN
  exact Nat.le_trans (List.length_filter_le _ _) (by simp; omega)
def wdI (l : List GGrant) (item t : Int) : List GGrant := if validG l = true ∧ inR item 0 199 = true ∧ inR t 0 10000000 = true then wdN l item t l.length else []
theorem within_is {n lo hi : Int} {b : Bool} {w : World} (h : inR n lo hi = b) : CallsV Try.prog 34 #[.int .i64 n, .int .i64 lo, .int .i64 hi] w (.bool b) := by rw [← h]; exact within_spec
theorem in_is {n lo hi : Int} {b : Bool} {w : World} (h : inR n lo hi = b) : CallsV Try.prog 35 #[.int .i64 n, .int .i64 lo, .int .i64 hi] w (.bool b) := by rw [← h]; exact in_spec
theorem oneG : ∀ (x : GGrant), ∀ u ∈ fGGrant.enc x, u.oneCell' = true := fun x u hu => by simp [fGGrant, GGrant.enc] at hu; rcases hu with rfl | rfl | rfl | rfl | rfl | rfl <;> rfl
set_option maxRecDepth 20000 in
set_option maxHeartbeats 8000000 in
theorem withdraw_run {v : Value} {l : List GGrant} {item t : Int} {w0 : World} (hr : Rd fGGrant.ty w0 v l) (hl : l.length ≤ 1000) :
    CallsR Try.prog 18 #[v, .int .i64 item, .int .i64 t] w0 fun v' w' => NewRow fGGrant 52 w0 w' v' (wdI l item t) := by
  have S := St.start w0
  have hl2 : l.length ≤ 1000000000 := by omega
  obtain ⟨A, c, rfl⟩ := hr.len
  refine CallsR.mk ?_
  refine calls_enter Try.func18 rfl (by intro _ h; first | exact nomatch h.1 | (obtain ⟨_, h, _⟩ := h; exact nomatch h)) Try.ntmps18 rfl ?_
  by_cases hv : validG l = true
  · by_cases h1 : inR item 0 199 = true
    · by_cases h2 : inR t 0 10000000 = true
      · repeat' (first | refine WP_seq ?_ | refine WP_region ?_ | refine wl_nil ?_ | refine then_normal ?_ | refine WP_skip ?_ | refine WP_block ?_ | refine WP_condF rfl ?_ | (refine g_move ?_; refine st_move rfl ?_) | (refine g_assign ?_; refine st_assign rfl ?_) | (refine g_pick ?_; refine st_pickF rfl rfl ?_) | (refine g_un ?_; refine st_val rfl (r_not rfl) ?_) | (refine g_c_len ?_; refine st_val rfl (r_lenSlice rfl) ?_) | (refine g_callV ?_; first | (refine st_callV rfl (r_call1 rfl rfl) (valid_is (hr.mono S.below) hl2 hv) ?_; intro w hb; replace S := S.grow hb; clear hb) | (refine st_callV rfl (r_call3 rfl rfl rfl rfl) (within_is h1) ?_; intro w hb; replace S := S.grow hb; clear hb) | (refine st_callV rfl (r_call3 rfl rfl rfl rfl) (within_is h2) ?_; intro w hb; replace S := S.grow hb; clear hb)))
        refine WP_loop (fun k σ w1 => ∃ (i : Int) (va : Value), Has σ [(1, .int .i64 item), (2, .int .i64 t), (7, va), (23, .slice A l.length c), (24, .int .i64 l.length), (25, .int .i64 i)] ∧ St w0 w1 [rowOb fGGrant 52 va (wdN l item t i.toNat)] ∧ 0 ≤ i ∧ i ≤ l.length ∧ k = l.length - i.toNat) l.length ⟨0, _, ⟨rfl, rfl, rfl, rfl, rfl, rfl, trivial⟩, S.nilRow fGGrant 52, by omega, by omega, by omega⟩ ?_
        clear S
        rintro k σ w1 ⟨i, va, hs, S, hi0, hi1, rfl⟩
        refine WP_has hs ?_
        by_cases hi : i < l.length
        · have hll := wdN_len l item t i.toNat
          have hn := wdN_succ (item := item) (t := t) hi0 hi
          unfold cutG liveG at hn
          by_cases he : (nth l i).Item = item
          · rw [if_pos he] at hn
            repeat' (first | refine WP_seq ?_ | refine WP_region ?_ | refine wl_nil ?_ | refine then_normal ?_ | refine inB_normal ?_ | refine WP_skip ?_ | refine WP_block ?_ | (refine g_move ?_; refine st_move rfl ?_) | (refine g_b_add ?_; (refine st_val rfl (r_addN rfl rfl ?_ ?_) ?_; (first | omega | (simp <;> omega)); (first | omega | (simp <;> omega)))) | (refine g_b_eql ?_; refine st_val rfl (r_eql rfl rfl) ?_) | (refine g_b_lss ?_; refine st_val rfl (r_lss rfl rfl) ?_) | (refine g_c_min ?_; refine st_val rfl (r_min2 rfl rfl) ?_) | (refine g_fieldAddr ?_; refine st_val rfl (r_fieldAddrL rfl) ?_) | (refine g_indexAddr ?_; (refine st_val rfl (r_indexAddr (hr.mono S.below) rfl rfl ?_ ?_) ?_; (first | omega | (simp <;> omega)); (first | omega | (simp <;> omega)))) | (refine g_load ?_; first | (refine st_val rfl (r_loadElem (hr.mono S.below) rfl ?_ ?_) ?_; (first | omega | (simp <;> omega)); (first | omega | (simp <;> omega))) | refine st_val rfl (r_loadVar (i := 1) S rfl rfl rfl) ?_ | refine st_val rfl (r_loadVarA (i := 1) S rfl rfl rfl rfl) ?_) | (refine g_alloc ?_; refine st_valE rfl (r_alloc S) ?_; rintro _ w ⟨b, rfl, -, S'⟩; replace S := S'; clear S') | (refine g_store ?_; first | (refine st_skipE rfl (r_storeVar (i := 0) S rfl rfl rfl rfl (of_decide_eq_true rfl) (of_decide_eq_true rfl)) ?_; intro w S'; replace S := S'; clear S') | (refine st_skipE rfl (r_storeVar (i := 1) S rfl rfl rfl rfl (of_decide_eq_true rfl) (of_decide_eq_true rfl)) ?_; intro w S'; replace S := S'; clear S') | (refine st_skipE rfl (r_storeVar (i := 2) S rfl rfl rfl rfl (of_decide_eq_true rfl) (of_decide_eq_true rfl)) ?_; intro w S'; replace S := S'; clear S') | (refine st_skipE rfl (r_storeVar (i := 3) S rfl rfl rfl rfl (of_decide_eq_true rfl) (of_decide_eq_true rfl)) ?_; intro w S'; replace S := S'; clear S') | (refine st_skipE rfl (r_storeVar (i := 4) S rfl rfl rfl rfl (of_decide_eq_true rfl) (of_decide_eq_true rfl)) ?_; intro w S'; replace S := S'; clear S') | (refine st_skipE rfl (r_storeVar (i := 5) S rfl rfl rfl rfl (of_decide_eq_true rfl) (of_decide_eq_true rfl)) ?_; intro w S'; replace S := S'; clear S')) | (refine WP_cond rfl (fun h => ?_) (fun h => ?_) <;> (fail_if_success (have hh : true = true := h)) <;> (fail_if_success (have hh : false = false := h)) <;> (try simp only [decide_eq_true_eq, decide_eq_false_iff_not, Bool.not_eq_true', Bool.not_eq_false', Int.not_lt, Int.not_le] at h) <;> (try (exfalso; omega))))
            · have hn' := hn.trans (if_pos (by simp; omega))
              refine st_valE rfl (r_litF (D := fGGrant) [(GGrant.mk (nth l i).Item (nth l i).Acts (nth l i).Regions (nth l i).Plays ⟨(nth l i).Window.From, min (nth l i).Window.To t⟩)] (fun x => .agg x.enc.toArray) S rfl rfl (fun _ => rfl) rfl (by decide) (by decide)) ?_
              rintro _ w ⟨bl, rfl, -, -, S'⟩; replace S := S'; clear S'
              refine st_valE rfl (r_appendRd (D := fGGrant) (i := 0) S rfl (S.rdRow (D := fGGrant) (i := 2) rfl) rfl rfl rfl (by decide) oneG (by simp; omega) (by simp; omega)) ?_
              rintro va' w ⟨-, S'⟩; replace S := S'; clear S'
              repeat' (first | refine WP_region ?_ | refine wl_nil ?_ | refine then_normal ?_ | refine inB_normal ?_ | (refine g_move ?_; refine st_move rfl ?_) | (refine g_assign ?_; refine st_assign rfl ?_) | (refine g_b_add ?_; (refine st_val rfl (r_addN rfl rfl ?_ ?_) ?_; (first | omega | (simp <;> omega)); (first | omega | (simp <;> omega)))))
              refine ⟨⟨_, ?_, i + 1, va', ⟨rfl, rfl, rfl, rfl, rfl, rfl, trivial⟩, hn' ▸ S.keep [true, false, false], by omega, by omega, rfl⟩⟩
              omega
            · have hn' := hn.trans (if_neg (by simp; omega))
              refine ⟨⟨_, ?_, i + 1, va, ⟨rfl, rfl, rfl, rfl, rfl, rfl, trivial⟩, hn' ▸ S.keep [true, false], by omega, by omega, rfl⟩⟩
              omega
          · rw [if_neg he] at hn
            repeat' (first | refine WP_seq ?_ | refine WP_region ?_ | refine wl_nil ?_ | refine then_normal ?_ | refine inB_normal ?_ | refine WP_skip ?_ | refine WP_block ?_ | (refine g_move ?_; refine st_move rfl ?_) | (refine g_b_add ?_; (refine st_val rfl (r_addN rfl rfl ?_ ?_) ?_; (first | omega | (simp <;> omega)); (first | omega | (simp <;> omega)))) | (refine g_b_eql ?_; refine st_val rfl (r_eql rfl rfl) ?_) | (refine g_b_lss ?_; refine st_val rfl (r_lss rfl rfl) ?_) | (refine g_fieldAddr ?_; refine st_val rfl (r_fieldAddrL rfl) ?_) | (refine g_indexAddr ?_; (refine st_val rfl (r_indexAddr (hr.mono S.below) rfl rfl ?_ ?_) ?_; (first | omega | (simp <;> omega)); (first | omega | (simp <;> omega)))) | (refine g_load ?_; first | (refine st_val rfl (r_loadElem (hr.mono S.below) rfl ?_ ?_) ?_; (first | omega | (simp <;> omega)); (first | omega | (simp <;> omega))) | refine st_val rfl (r_loadVar (i := 1) S rfl rfl rfl) ?_ | refine st_val rfl (r_loadVarA (i := 1) S rfl rfl rfl rfl) ?_) | (refine g_alloc ?_; refine st_valE rfl (r_alloc S) ?_; rintro _ w ⟨b, rfl, -, S'⟩; replace S := S'; clear S') | (refine g_store ?_; first | (refine st_skipE rfl (r_storeVar (i := 0) S rfl rfl rfl rfl (of_decide_eq_true rfl) (of_decide_eq_true rfl)) ?_; intro w S'; replace S := S'; clear S') | (refine st_skipE rfl (r_storeVar (i := 1) S rfl rfl rfl rfl (of_decide_eq_true rfl) (of_decide_eq_true rfl)) ?_; intro w S'; replace S := S'; clear S') | (refine st_skipE rfl (r_storeVar (i := 2) S rfl rfl rfl rfl (of_decide_eq_true rfl) (of_decide_eq_true rfl)) ?_; intro w S'; replace S := S'; clear S') | (refine st_skipE rfl (r_storeVar (i := 3) S rfl rfl rfl rfl (of_decide_eq_true rfl) (of_decide_eq_true rfl)) ?_; intro w S'; replace S := S'; clear S') | (refine st_skipE rfl (r_storeVar (i := 4) S rfl rfl rfl rfl (of_decide_eq_true rfl) (of_decide_eq_true rfl)) ?_; intro w S'; replace S := S'; clear S') | (refine st_skipE rfl (r_storeVar (i := 5) S rfl rfl rfl rfl (of_decide_eq_true rfl) (of_decide_eq_true rfl)) ?_; intro w S'; replace S := S'; clear S')) | (refine WP_cond rfl (fun h => ?_) (fun h => ?_) <;> (fail_if_success (have hh : true = true := h)) <;> (fail_if_success (have hh : false = false := h)) <;> (try simp only [decide_eq_true_eq, decide_eq_false_iff_not, Bool.not_eq_true', Bool.not_eq_false', Int.not_lt, Int.not_le] at h) <;> (try (exfalso; omega))))
            · have hn' := hn.trans (if_pos (by simp; omega))
              refine st_valE rfl (r_litF (D := fGGrant) [nth l i] (fun x => .agg x.enc.toArray) S rfl rfl (fun _ => rfl) rfl (by decide) (by decide)) ?_
              rintro _ w ⟨bl, rfl, -, -, S'⟩; replace S := S'; clear S'
              refine st_valE rfl (r_appendRd (D := fGGrant) (i := 0) S rfl (S.rdRow (D := fGGrant) (i := 2) rfl) rfl rfl rfl (by decide) oneG (by simp; omega) (by simp; omega)) ?_
              rintro va' w ⟨-, S'⟩; replace S := S'; clear S'
              repeat' (first | refine WP_region ?_ | refine wl_nil ?_ | refine then_normal ?_ | refine inB_normal ?_ | (refine g_move ?_; refine st_move rfl ?_) | (refine g_assign ?_; refine st_assign rfl ?_) | (refine g_b_add ?_; (refine st_val rfl (r_addN rfl rfl ?_ ?_) ?_; (first | omega | (simp <;> omega)); (first | omega | (simp <;> omega)))))
              refine ⟨⟨_, ?_, i + 1, va', ⟨rfl, rfl, rfl, rfl, rfl, rfl, trivial⟩, hn' ▸ S.keep [true, false, false], by omega, by omega, rfl⟩⟩
              omega
            · have hn' := hn.trans (if_neg (by simp; omega))
              refine ⟨⟨_, ?_, i + 1, va, ⟨rfl, rfl, rfl, rfl, rfl, rfl, trivial⟩, hn' ▸ S.keep [true, false], by omega, by omega, rfl⟩⟩
              omega
        · have e : i.toNat = l.length := by omega
          rw [e] at S
          repeat' (first | refine WP_seq ?_ | refine WP_region ?_ | refine wl_nil ?_ | refine then_normal ?_ | refine then_exit ?_ | refine inB_here ?_ | refine WP_ret ?_ | refine WP_exit ?_ | (refine g_move ?_; refine st_move rfl ?_) | (refine g_assign ?_; refine st_assign rfl ?_) | (refine g_b_lss ?_; refine st_val rfl (r_lss rfl rfl) ?_) | (refine WP_cond rfl (fun h => ?_) (fun h => ?_) <;> (fail_if_success (have hh : true = true := h)) <;> (fail_if_success (have hh : false = false := h)) <;> (try simp only [decide_eq_true_eq, decide_eq_false_iff_not, Bool.not_eq_true', Bool.not_eq_false', Int.not_lt, Int.not_le] at h) <;> (try (exfalso; omega))))
          exact end1 rfl rfl ⟨va, rfl, S.below, by rw [wdI, if_pos ⟨hv, h1, h2⟩]; exact S.row (i := 0) rfl⟩
      · repeat' (first | refine WP_seq ?_ | refine WP_region ?_ | refine wl_nil ?_ | refine then_normal ?_ | refine then_ret ?_ | refine WP_ret ?_ | refine WP_condT rfl ?_ | (refine g_move ?_; refine st_move rfl ?_) | (refine g_assign ?_; refine st_assign rfl ?_) | (refine g_pick ?_; refine st_pickF rfl rfl ?_) | (refine g_un ?_; refine st_val rfl (r_not rfl) ?_) | (refine g_callV ?_; first | (refine st_callV rfl (r_call1 rfl rfl) (valid_is (hr.mono S.below) hl2 hv) ?_; intro w hb; replace S := S.grow hb; clear hb) | (refine st_callV rfl (r_call3 rfl rfl rfl rfl) (within_is h1) ?_; intro w hb; replace S := S.grow hb; clear hb) | (refine st_callV rfl (r_call3 rfl rfl rfl rfl) (within_is (Bool.eq_false_iff.2 h2)) ?_; intro w hb; replace S := S.grow hb; clear hb)))
        have e : wdI l item t = [] := if_neg (fun h => h2 h.2.2)
        rw [e]
        exact end1 rfl rfl ⟨_, rfl, S.below, NewRow.nil _ _ _ _⟩
    · repeat' (first | refine WP_seq ?_ | refine WP_region ?_ | refine wl_nil ?_ | refine then_normal ?_ | refine then_ret ?_ | refine WP_ret ?_ | refine WP_condT rfl ?_ | (refine g_guard ?_; refine st_off rfl ?_) | (refine g_move ?_; refine st_move rfl ?_) | (refine g_assign ?_; refine st_assign rfl ?_) | (refine g_pick ?_; first | refine st_pickT rfl rfl ?_ | refine st_pickF rfl rfl ?_) | (refine g_un ?_; refine st_val rfl (r_not rfl) ?_) | (refine g_callV ?_; first | (refine st_callV rfl (r_call1 rfl rfl) (valid_is (hr.mono S.below) hl2 hv) ?_; intro w hb; replace S := S.grow hb; clear hb) | (refine st_callV rfl (r_call3 rfl rfl rfl rfl) (within_is (Bool.eq_false_iff.2 h1)) ?_; intro w hb; replace S := S.grow hb; clear hb)))
      have e : wdI l item t = [] := if_neg (fun h => h1 h.2.1)
      rw [e]
      exact end1 rfl rfl ⟨_, rfl, S.below, NewRow.nil _ _ _ _⟩
  · repeat' (first | refine WP_seq ?_ | refine WP_region ?_ | refine wl_nil ?_ | refine then_normal ?_ | refine then_ret ?_ | refine WP_ret ?_ | refine WP_condT rfl ?_ | (refine g_guard ?_; refine st_off rfl ?_) | (refine g_move ?_; refine st_move rfl ?_) | (refine g_assign ?_; refine st_assign rfl ?_) | (refine g_pick ?_; refine st_pickT rfl rfl ?_) | (refine g_un ?_; refine st_val rfl (r_not rfl) ?_) | (refine g_callV ?_; (refine st_callV rfl (r_call1 rfl rfl) (valid_is (hr.mono S.below) hl2 (Bool.eq_false_iff.2 hv)) ?_; intro w hb; replace S := S.grow hb; clear hb)))
    have e : wdI l item t = [] := if_neg (fun h => hv h.1)
    rw [e]
    exact end1 rfl rfl ⟨_, rfl, S.below, NewRow.nil _ _ _ _⟩
end Go.Proofs.Ytfdjnadopniaeaa
