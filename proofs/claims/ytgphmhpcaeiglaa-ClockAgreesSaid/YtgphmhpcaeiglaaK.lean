import Derived.Test.YtgphmhpcaeiglaaJ
namespace Go.Proofs.Ytgphmhpcaeiglaa
open Go Go.Gx Go.RowKit
set_option linter.unusedVariables false
set_option linter.unusedSimpArgs false

def vA {α : Type} (D : Flat α) (x : α) : Value := .agg (D.enc x).toArray
theorem KA_congr {N : Int → Int} {H H' : Int → Prop} {m f t : Int} {o : Bool} (hK : KA N H m o f t) (h : ∀ s, H s ↔ H' s) : KA N H' m o f t := by
  have : H = H' := funext fun s => propext (h s)
  rw [← this]; exact hK
def belowE (E : List GEdge) (i s : Int) : Prop := i < E.length → s < (nth E i).at_
theorem nowE {l : List GSpell} {E : List GEdge} (hp : E.Perm (edgesI l)) (hs : SortedE E) {i s : Int} (i0 : 0 ≤ i) (hi : i ≤ E.length) (h1 : 0 < i → (nth E (i - 1)).at_ ≤ s) (h2 : belowE E i s) : insideI l s = sumBy (E.take i.toNat) := by
  rw [← sumE_inside, ← sumE_perm hp, sumE_at hs i0 hi h1 h2]
theorem sumBy_range {E : List GEdge} (h : ∀ e ∈ E, e.by_ = 1 ∨ e.by_ = -1) : -E.length ≤ sumBy E ∧ sumBy E ≤ E.length := by
  induction E with
  | nil => simp [sumBy]
  | cons a r ih =>
    have := ih fun e he => h e (List.mem_cons_of_mem _ he)
    have := h a (List.mem_cons_self ..)
    simp only [sumBy, List.length_cons]; omega
theorem step_same {l : List GSpell} {E : List GEdge} {i m f t : Int} {o : Bool} (i0 : 0 ≤ i) (hi : i + 1 < E.length) (he : (nth E (i + 1)).at_ = (nth E i).at_) (hK : KA (insideI l) (belowE E i) m o f t) : KA (insideI l) (belowE E (i + 1)) m o f t :=
  KA_congr hK fun s => by unfold belowE; rw [he]; constructor <;> intro h _ <;> exact h (by omega)
theorem step_next {l : List GSpell} {E : List GEdge} {i m f t now : Int} {o : Bool} (hp : E.Perm (edgesI l)) (hs : SortedE E) (i0 : 0 ≤ i) (hi : i < E.length) (hne : i + 1 < E.length → ¬ (nth E (i + 1)).at_ = (nth E i).at_) (hnow : sumBy (E.take (i + 1).toNat) = now) (hK : KA (insideI l) (belowE E i) m o f t) :
    (m < now → KA (insideI l) (belowE E (i + 1)) now true (nth E i).at_ t) ∧ (o = true → now < m → KA (insideI l) (belowE E (i + 1)) m false f (nth E i).at_) ∧ (¬ m < now → ¬ (o = true ∧ now < m) → KA (insideI l) (belowE E (i + 1)) m o f t) := by
  have hlt : ∀ h : i + 1 < E.length, (nth E i).at_ < (nth E (i + 1)).at_ := fun h => by
    have := sorted_le hs (i := i) (j := i + 1) i0 (by omega) h
    have := hne h
    omega
  refine KA_step hK (a := (nth E i).at_) (fun s => ⟨fun h => h hi, fun h _ => h⟩) (fun s h1 h2 => ?_) (fun s h => ?_) ?_
  · rw [← hnow]
    refine nowE hp hs (by omega) (by omega) (fun _ => ?_) h1
    rw [show i + 1 - 1 = i by omega]; omega
  · intro h1; have := hlt h1; omega
  · intro h1; exact hlt h1

set_option maxRecDepth 4000 in
set_option maxHeartbeats 1000000 in
theorem agree_spec {v : Value} {l : List GSpell} {w0 : World} (hr : Rd fGSpell.ty w0 v l) (hl : l.length ≤ 100000) :
    CallsR Try.prog 12 #[v] w0 fun u w' => ∃ f t k, u = .tuple #[.agg #[.int .i64 f, .int .i64 t], .int .i64 k] ∧ AgreeOK l f t k := by
  have S := St.start w0
  obtain ⟨A, c, rfl⟩ := hr.len
  refine CallsR.mk ?_
  refine calls_enter Try.func12 rfl Try.ntmps12 rfl ?_
  repeat' (first | refine WP_seq ?_ | refine WP_region ?_ | refine wl_nil ?_ | refine then_normal ?_ | refine WP_block ?_ | (refine g_move ?_; refine st_move rfl ?_) | (refine g_assign ?_; refine st_assign rfl ?_) | (refine g_c_len ?_; refine st_val rfl (r_lenSlice rfl) ?_) | (refine g_alloc ?_; refine st_valE rfl (r_alloc S) ?_; rintro _ w ⟨b, rfl, -, S'⟩; replace S := S'; clear S'))
  obtain ⟨b2, rfl⟩ : ∃ z, z = b := ⟨_, rfl⟩
  replace S := S.nilRow fGEdge 56
  refine WP_loop (fun k σ w1 => ∃ (i : Int) (ve : Value), Has σ [(2, .pointer (some ⟨b2, 0, none⟩)), (4, ve), (13, .slice A l.length c), (14, .int .i64 l.length), (15, .int .i64 i)] ∧ St w0 w1 [.var b2 32 [.int .i64 0, .int .i64 0], rowOb fGEdge 56 ve (edgesI (l.take i.toNat))] ∧ 0 ≤ i ∧ i ≤ l.length ∧ k = l.length - i.toNat) l.length ⟨0, _, ⟨rfl, rfl, rfl, rfl, rfl, trivial⟩, S, by omega, by omega, by omega⟩ ?_
  clear S
  rintro k σ w1 ⟨i, ve, hs, S, a0, a1, rfl⟩
  refine WP_has hs ?_
  by_cases hi : i < l.length
  · have hel := edges_len (l.take i.toNat)
    rw [List.length_take] at hel
    have hnx : edgesI (l.take (i + 1).toNat) = edgesI (l.take i.toNat) ++ (if (nth l i).From < (nth l i).To then [⟨(nth l i).From, 1⟩, ⟨(nth l i).To, -1⟩] else []) := by rw [take_snoc a0 hi, edges_snoc]
    by_cases hx : (nth l i).From < (nth l i).To
    · rw [if_pos hx] at hnx
      repeat' (first | refine WP_seq ?_ | refine WP_region ?_ | refine wl_nil ?_ | refine then_normal ?_ | refine WP_skip ?_ | refine WP_block ?_ | (refine g_move ?_; refine st_move rfl ?_) | (refine g_b_lss ?_; refine st_val rfl (r_lss rfl rfl) ?_) | (refine g_build ?_; refine st_val rfl (bd56_0_1 rfl rfl) ?_) | (refine g_fieldAddr ?_; refine st_val rfl (r_fieldAddrL rfl) ?_) | (refine g_indexAddr ?_; (refine st_val rfl (r_indexAddr (hr.mono S.below) rfl rfl ?_ ?_) ?_; (first | omega | (simp <;> omega)); (first | omega | (simp <;> omega)))) | (refine g_load ?_; first | (refine st_val rfl (r_loadElem (hr.mono S.below) rfl ?_ ?_) ?_; (first | omega | (simp <;> omega)); (first | omega | (simp <;> omega))) | refine st_val rfl (r_loadVar (i := 2) S rfl rfl rfl) ?_) | (refine g_alloc ?_; refine st_valE rfl (r_alloc S) ?_; rintro _ w ⟨b, rfl, -, S'⟩; replace S := S'; clear S') | (refine g_store ?_; first | (refine st_skipE rfl (r_storeVar (i := 0) S rfl rfl rfl rfl (of_decide_eq_true rfl) (of_decide_eq_true rfl)) ?_; intro w S'; replace S := S'; clear S') | (refine st_skipE rfl (r_storeVar (i := 1) S rfl rfl rfl rfl (of_decide_eq_true rfl) (of_decide_eq_true rfl)) ?_; intro w S'; replace S := S'; clear S') | (refine st_skipE rfl (r_storeVar (i := 2) S rfl rfl rfl rfl (of_decide_eq_true rfl) (of_decide_eq_true rfl)) ?_; intro w S'; replace S := S'; clear S')) | (refine WP_cond rfl (fun h => ?_) (fun h => ?_) <;> (fail_if_success (have hh : true = true := h)) <;> (try simp only [decide_eq_true_eq, decide_eq_false_iff_not, Bool.not_eq_true', Bool.not_eq_false', Int.not_lt, Int.not_le] at h) <;> (try (exfalso; omega))))
      refine st_valE rfl (r_litF (D := fGEdge) [⟨(nth l i).From, 1⟩, ⟨(nth l i).To, -1⟩] (vA fGEdge) S rfl rfl (fun _ => rfl) rfl (by decide) (by decide)) ?_
      rintro _ w ⟨bl, rfl, -, -, S'⟩; replace S := S'; clear S'
      skip
      refine st_valE rfl (r_appendRd (D := fGEdge) (i := 1) S rfl (S.rdRow (D := fGEdge) (i := 3) rfl) rfl rfl rfl (by decide) (fun x u hu => by simp [fGEdge, GEdge.enc] at hu; rcases hu with rfl | rfl <;> rfl) (by simp; omega) (by simp; omega)) ?_
      rintro ve' w ⟨-, S'⟩; replace S := S'; clear S'
      repeat' (first | refine WP_region ?_ | refine wl_nil ?_ | refine then_normal ?_ | refine inB_normal ?_ | (refine g_move ?_; refine st_move rfl ?_) | (refine g_assign ?_; refine st_assign rfl ?_) | (refine g_b_add ?_; (refine st_val rfl (r_addN rfl rfl ?_ ?_) ?_; (first | omega | (simp <;> omega)); (first | omega | (simp <;> omega)))))
      refine ⟨⟨_, ?_, i + 1, ve', ⟨rfl, rfl, rfl, rfl, rfl, trivial⟩, (by rw [hnx]; exact S.keep [true, true, false, false]), by omega, by omega, rfl⟩⟩
      omega
    · rw [if_neg hx, List.append_nil] at hnx
      repeat' (first | refine WP_seq ?_ | refine WP_region ?_ | refine wl_nil ?_ | refine then_normal ?_ | refine inB_normal ?_ | refine WP_skip ?_ | refine WP_block ?_ | (refine g_move ?_; refine st_move rfl ?_) | (refine g_b_add ?_; (refine st_val rfl (r_addN rfl rfl ?_ ?_) ?_; (first | omega | (simp <;> omega)); (first | omega | (simp <;> omega)))) | (refine g_b_lss ?_; refine st_val rfl (r_lss rfl rfl) ?_) | (refine g_fieldAddr ?_; refine st_val rfl (r_fieldAddrL rfl) ?_) | (refine g_indexAddr ?_; (refine st_val rfl (r_indexAddr (hr.mono S.below) rfl rfl ?_ ?_) ?_; (first | omega | (simp <;> omega)); (first | omega | (simp <;> omega)))) | (refine g_load ?_; first | (refine st_val rfl (r_loadElem (hr.mono S.below) rfl ?_ ?_) ?_; (first | omega | (simp <;> omega)); (first | omega | (simp <;> omega))) | refine st_val rfl (r_loadVar (i := 2) S rfl rfl rfl) ?_) | (refine g_alloc ?_; refine st_valE rfl (r_alloc S) ?_; rintro _ w ⟨b, rfl, -, S'⟩; replace S := S'; clear S') | (refine g_store ?_; first | (refine st_skipE rfl (r_storeVar (i := 0) S rfl rfl rfl rfl (of_decide_eq_true rfl) (of_decide_eq_true rfl)) ?_; intro w S'; replace S := S'; clear S') | (refine st_skipE rfl (r_storeVar (i := 1) S rfl rfl rfl rfl (of_decide_eq_true rfl) (of_decide_eq_true rfl)) ?_; intro w S'; replace S := S'; clear S') | (refine st_skipE rfl (r_storeVar (i := 2) S rfl rfl rfl rfl (of_decide_eq_true rfl) (of_decide_eq_true rfl)) ?_; intro w S'; replace S := S'; clear S')) | (refine WP_cond rfl (fun h => ?_) (fun h => ?_) <;> (fail_if_success (have hh : true = true := h)) <;> (try simp only [decide_eq_true_eq, decide_eq_false_iff_not, Bool.not_eq_true', Bool.not_eq_false', Int.not_lt, Int.not_le] at h) <;> (try (exfalso; omega))))
      refine ⟨⟨_, ?_, i + 1, ve, ⟨rfl, rfl, rfl, rfl, rfl, trivial⟩, (by rw [hnx]; exact S.keep [true, true, false]), by omega, by omega, rfl⟩⟩
      omega
  · rw [show i.toNat = l.length by omega, List.take_of_length_le (Nat.le_refl _)] at S
    have hel := edges_len l
    repeat' (first | refine WP_seq ?_ | refine WP_region ?_ | refine wl_nil ?_ | refine then_normal ?_ | refine then_exit ?_ | refine inB_here ?_ | refine WP_exit ?_ | (refine g_move ?_; refine st_move rfl ?_) | (refine g_b_lss ?_; refine st_val rfl (r_lss rfl rfl) ?_) | (refine WP_cond rfl (fun h => ?_) (fun h => ?_) <;> (fail_if_success (have hh : true = true := h)) <;> (try simp only [decide_eq_true_eq, decide_eq_false_iff_not, Bool.not_eq_true', Bool.not_eq_false', Int.not_lt, Int.not_le] at h) <;> (try (exfalso; omega))))
    refine st_callW rfl (r_call2 rfl rfl rfl) (sortE_any (i := 1) S rfl (by omega)) ?_
    rintro _ w ⟨rfl, E, hp, hlen, hpw, S'⟩; replace S := S'; clear S'
    have hsE : SortedE E := hpw.imp fun {x y} h => by rw [ltE_iff] at h; simpa using h
    have hby : ∀ e ∈ E, e.by_ = 1 ∨ e.by_ = -1 := fun e he => edges_by l e (hp.mem_iff.1 he)
    obtain ⟨A4, c4, rfl⟩ := (S.rdRow (D := fGEdge) (i := 1) rfl).len
    repeat' (first | refine WP_seq ?_ | refine WP_region ?_ | refine wl_nil ?_ | refine then_normal ?_ | refine WP_block ?_ | (refine g_move ?_; refine st_move rfl ?_) | (refine g_assign ?_; refine st_assign rfl ?_) | (refine g_build ?_; refine st_val rfl (bd32_ ) ?_) | (refine g_c_len ?_; refine st_val rfl (r_lenSlice rfl) ?_) | (refine g_alloc ?_; refine st_valE rfl (r_alloc S) ?_; rintro _ w ⟨b, rfl, -, S'⟩; replace S := S'; clear S') | (refine g_store ?_; first | (refine st_skipE rfl (r_storeVar (i := 0) S rfl rfl rfl rfl (of_decide_eq_true rfl) (of_decide_eq_true rfl)) ?_; intro w S'; replace S := S'; clear S') | (refine st_skipE rfl (r_storeVar (i := 1) S rfl rfl rfl rfl (of_decide_eq_true rfl) (of_decide_eq_true rfl)) ?_; intro w S'; replace S := S'; clear S') | (refine st_skipE rfl (r_storeVar (i := 2) S rfl rfl rfl rfl (of_decide_eq_true rfl) (of_decide_eq_true rfl)) ?_; intro w S'; replace S := S'; clear S')))
    obtain ⟨b7, rfl⟩ : ∃ z, z = b := ⟨_, rfl⟩
    refine WP_loop (fun k σ w1 => ∃ (i m f t : Int) (o : Bool), Has σ [(2, .pointer (some ⟨b2, 0, none⟩)), (4, .slice A4 E.length c4), (7, .pointer (some ⟨b7, 0, none⟩)), (8, .int .i64 m), (9, .int .i64 (sumBy (E.take i.toNat))), (10, .bool o), (37, .slice A4 E.length c4), (38, .int .i64 E.length), (39, .int .i64 i)] ∧ St w0 w1 [.var b2 32 [.int .i64 0, .int .i64 0], rowOb fGEdge 56 (.slice A4 E.length c4) E, .var b7 32 [.int .i64 f, .int .i64 t]] ∧ 0 ≤ i ∧ i ≤ E.length ∧ k = E.length - i.toNat ∧ KA (insideI l) (belowE E i) m o f t) E.length
      ⟨0, 0, 0, 0, false, ⟨rfl, rfl, rfl, rfl, rfl, rfl, rfl, rfl, rfl, trivial⟩, S, by omega, by omega, by omega, ⟨fun s h => by rw [nowE hp hsE (i := 0) (by omega) (by omega) (fun h => by omega) h]; exact Int.le_refl _, by omega, .inl ⟨rfl, rfl, rfl, rfl⟩⟩⟩ ?_
    clear S hs
    rintro k σ w1 ⟨i, m, f, t, o, hs, S, a0, a1, rfl, hK⟩
    refine WP_has hs ?_
    by_cases hi : i < E.length
    · have hsb := sumBy_range (E := E.take i.toNat) fun e he => hby e (List.mem_of_mem_take he)
      rw [List.length_take] at hsb
      have hbi := hby _ (nth_mem a0 hi)
      have hnow : sumBy (E.take (i + 1).toNat) = sumBy (E.take i.toNat) + (nth E i).by_ := by rw [take_snoc a0 hi, sumBy_snoc]
      repeat' (first | refine WP_seq ?_ | refine WP_region ?_ | refine wl_nil ?_ | refine then_normal ?_ | refine inB_normal ?_ | refine then_exit ?_ | refine inB_here ?_ | refine WP_skip ?_ | refine WP_exit ?_ | refine WP_block ?_ | refine WP_condF rfl ?_ | refine WP_drawTail 6 (by kernel_rfl) (by decide +kernel) ?_ | refine WP_drawTail 4 (by kernel_rfl) (by decide +kernel) ?_ | refine WP_draw (by kernel_rfl) (by kernel_rfl) ?_ | (refine ql_nil ?_; intro w hb; replace S := S.grow hb; clear hb) | (refine g_guard ?_; refine st_off rfl ?_) | (refine g_move ?_; refine st_move rfl ?_) | (refine g_assign ?_; refine st_assign rfl ?_) | (refine g_pick ?_; first | refine st_pickT rfl rfl ?_ | refine st_pickF rfl rfl ?_) | (refine g_b_add ?_; (refine st_val rfl (r_addN rfl rfl ?_ ?_) ?_; (first | omega | (simp <;> omega)); (first | omega | (simp <;> omega)))) | (refine g_b_lss ?_; refine st_val rfl (r_lss rfl rfl) ?_) | (refine g_b_gtr ?_; refine st_val rfl (r_gtr rfl rfl) ?_) | (refine g_fieldAddr ?_; refine st_val rfl (r_fieldAddrL rfl) ?_) | (refine g_indexAddr ?_; (refine st_val rfl (r_indexAddr (S.rdRow (D := fGEdge) (i := 1) rfl) rfl rfl ?_ ?_) ?_; (first | omega | (simp <;> omega)); (first | omega | (simp <;> omega)))) | (refine g_load ?_; first | (refine st_val rfl (r_loadElem (S.rdRow (D := fGEdge) (i := 1) rfl) rfl ?_ ?_) ?_; (first | omega | (simp <;> omega)); (first | omega | (simp <;> omega))) | refine st_val rfl (r_loadVar (i := 3) S rfl rfl rfl) ?_) | (refine gq_guard ?_; refine q_off rfl ?_) | (refine gq_move ?_; refine q_move rfl ?_) | (refine gq_assign ?_; refine q_assign rfl ?_) | (refine gq_pick ?_; first | refine q_pickT rfl rfl ?_ | refine q_pickF rfl rfl ?_) | (refine gq_b_add ?_; (refine q_val rfl (fun w' hb => r_addN rfl rfl ?_ ?_) ?_; (first | omega | (simp <;> omega)); (first | omega | (simp <;> omega)))) | (refine gq_b_eql ?_; refine q_val rfl (fun w' hb => r_eql rfl rfl) ?_) | (refine gq_b_lss ?_; refine q_val rfl (fun w' hb => r_lss rfl rfl) ?_) | (refine gq_c_len ?_; refine q_val rfl (fun w' hb => r_lenSlice rfl) ?_) | (refine gq_fieldAddr ?_; first | refine q_val rfl (fun w' hb => r_fieldAddrL rfl) ?_ | refine q_val rfl (fun w' hb => r_fieldAddr rfl) ?_) | (refine gq_indexAddr ?_; (refine q_val rfl (fun w' hb => r_indexAddr ((S.grow hb).rdRow (D := fGEdge) (i := 1) rfl) rfl rfl ?_ ?_) ?_; (first | omega | (simp <;> omega)); (first | omega | (simp <;> omega)))) | (refine gq_load ?_; first | (refine q_val rfl (fun w' hb => r_loadElem1 ((S.grow hb).rdRow (D := fGEdge) (i := 1) rfl) rfl ?_ ?_ rfl) ?_; (first | omega | (simp <;> omega)); (first | omega | (simp <;> omega))) | refine q_val rfl (fun w' hb => r_loadVar (i := 3) (S.grow hb) rfl rfl rfl) ?_) | (refine g_alloc ?_; refine st_valE rfl (r_alloc S) ?_; rintro _ w ⟨b, rfl, -, S'⟩; replace S := S'; clear S') | (refine g_store ?_; first | (refine st_skipE rfl (r_storeVar (i := 0) S rfl rfl rfl rfl (of_decide_eq_true rfl) (of_decide_eq_true rfl)) ?_; intro w S'; replace S := S'; clear S') | (refine st_skipE rfl (r_storeVar (i := 1) S rfl rfl rfl rfl (of_decide_eq_true rfl) (of_decide_eq_true rfl)) ?_; intro w S'; replace S := S'; clear S') | (refine st_skipE rfl (r_storeVar (i := 2) S rfl rfl rfl rfl (of_decide_eq_true rfl) (of_decide_eq_true rfl)) ?_; intro w S'; replace S := S'; clear S') | (refine st_skipE rfl (r_storeVar (i := 3) S rfl rfl rfl rfl (of_decide_eq_true rfl) (of_decide_eq_true rfl)) ?_; intro w S'; replace S := S'; clear S') | (refine st_skipE rfl (r_storeVar (i := 4) S rfl rfl rfl rfl (of_decide_eq_true rfl) (of_decide_eq_true rfl)) ?_; intro w S'; replace S := S'; clear S')) | (refine wl_split rfl rfl (fun h => ?_) (fun h => ?_) <;> (fail_if_success (have hh : true = true := h)) <;> (try simp only [decide_eq_true_eq, decide_eq_false_iff_not, Bool.not_eq_true', Bool.not_eq_false', Int.not_lt, Int.not_le] at h) <;> (try (exfalso; omega))) | (refine ql_split rfl rfl (fun h => ?_) (fun h => ?_) <;> (fail_if_success (have hh : true = true := h)) <;> (try simp only [decide_eq_true_eq, decide_eq_false_iff_not, Bool.not_eq_true', Bool.not_eq_false', Int.not_lt, Int.not_le] at h) <;> (try (exfalso; omega))) | (refine WP_cond rfl (fun h => ?_) (fun h => ?_) <;> (fail_if_success (have hh : true = true := h)) <;> (try simp only [decide_eq_true_eq, decide_eq_false_iff_not, Bool.not_eq_true', Bool.not_eq_false', Int.not_lt, Int.not_le] at h) <;> (try (exfalso; omega))))
      all_goals first
        | (refine ⟨⟨_, ?_, i + 1, m, f, t, o, ⟨rfl, rfl, rfl, rfl, vi hnow.symm, rfl, rfl, rfl, rfl, trivial⟩, S.keep [true, true, true, false], by omega, by omega, rfl, step_same a0 (by omega) (by omega) hK⟩⟩; omega)
        | (refine ⟨⟨_, ?_, i + 1, _, (nth E i).at_, t, true, ⟨rfl, rfl, rfl, rfl, vi hnow.symm, rfl, rfl, rfl, rfl, trivial⟩, S.keep [true, true, true, false], by omega, by omega, rfl, (step_next hp hsE a0 hi (fun _ => by omega) hnow hK).1 (by omega)⟩⟩; omega)
        | (refine ⟨⟨_, ?_, i + 1, m, f, (nth E i).at_, false, ⟨rfl, rfl, rfl, rfl, vi hnow.symm, rfl, rfl, rfl, rfl, trivial⟩, S.keep [true, true, true, false], by omega, by omega, rfl, (step_next hp hsE a0 hi (fun _ => by omega) hnow hK).2.1 (by assumption) (by omega)⟩⟩; omega)
        | (refine ⟨⟨_, ?_, i + 1, m, f, t, o, ⟨rfl, rfl, rfl, rfl, vi hnow.symm, rfl, rfl, rfl, rfl, trivial⟩, S.keep [true, true, true, false], by omega, by omega, rfl, (step_next hp hsE a0 hi (fun _ => by omega) hnow hK).2.2 (by omega) (fun ⟨ho, hh⟩ => by first | omega | simp_all)⟩⟩; omega)
        | trace_state
    · repeat' (first | refine WP_seq ?_ | refine WP_region ?_ | refine wl_nil ?_ | refine then_normal ?_ | refine then_exit ?_ | refine inB_here ?_ | refine WP_ret ?_ | refine WP_exit ?_ | (refine g_move ?_; refine st_move rfl ?_) | (refine g_assign ?_; refine st_assign rfl ?_) | (refine g_b_lss ?_; refine st_val rfl (r_lss rfl rfl) ?_) | (refine g_load ?_; refine st_val rfl (r_loadVarA (i := 2) S rfl rfl rfl rfl) ?_) | (refine g_store ?_; first | (refine st_skipE rfl (r_storeVar (i := 0) S rfl rfl rfl rfl (of_decide_eq_true rfl) (of_decide_eq_true rfl)) ?_; intro w S'; replace S := S'; clear S') | (refine st_skipE rfl (r_storeVar (i := 1) S rfl rfl rfl rfl (of_decide_eq_true rfl) (of_decide_eq_true rfl)) ?_; intro w S'; replace S := S'; clear S') | (refine st_skipE rfl (r_storeVar (i := 2) S rfl rfl rfl rfl (of_decide_eq_true rfl) (of_decide_eq_true rfl)) ?_; intro w S'; replace S := S'; clear S')) | (refine WP_cond rfl (fun h => ?_) (fun h => ?_) <;> (fail_if_success (have hh : true = true := h)) <;> (try simp only [decide_eq_true_eq, decide_eq_false_iff_not, Bool.not_eq_true', Bool.not_eq_false', Int.not_lt, Int.not_le] at h) <;> (try (exfalso; omega))))
      exact endCT rfl rfl rfl S (i := 0) rfl rfl ⟨_, rfl, S.below, f, t, m, rfl, KA_end hK fun s h => absurd h hi⟩
end Go.Proofs.Ytgphmhpcaeiglaa
