/- Merged texts: S, T, U, V, W, X, Y. -/
import Derived.Test.YtgdmaadikcnagaaDoorMC1
namespace Go.Proofs.YtgdmaadikcnagaaDoor
open Go Go.Gx Go.RowKit
set_option linter.unusedVariables false
set_option linter.unusedSimpArgs false

/-- A number set behind those that are not greater. -/
def insO (sp : List GSpot) (out : List Int) (i : Int) : List Int := out.takeWhile (fun e => !cS sp i e) ++ i :: out.dropWhile (fun e => !cS sp i e)
def ordN (sp : List GSpot) : Nat → List Int
  | 0 => []
  | n + 1 => insO sp (ordN sp n) n
def ordI (sp : List GSpot) : List Int := ordN sp sp.length
theorem sorted_drop {c : Int → Int → Bool} (hc : SW c) {i : Int} : ∀ {l : List Int}, l.Pairwise (RS c) → (∀ y ∈ l, y < i) → ∀ b ∈ l.dropWhile (fun e => !c i e), c i b = true
  | [], _, _, b, hb => by cases hb
  | x :: l, hp, hlt, b, hb => by
    rw [List.dropWhile_cons] at hb
    cases hx : c i x with
    | false =>
      rw [hx] at hb
      simp only [Bool.not_false, if_true] at hb
      exact sorted_drop hc (List.pairwise_cons.1 hp).2 (fun y hy => hlt y (List.mem_cons_of_mem _ hy)) b hb
    | true =>
      rw [hx] at hb
      simp only [Bool.not_true, Bool.false_eq_true, if_false] at hb
      rcases List.mem_cons.1 hb with rfl | hb
      · exact hx
      · rcases (List.pairwise_cons.1 hp).1 b hb with h | ⟨h, _⟩
        · exact hc.trans _ _ _ hx h
        · cases e : c i b with
          | true => rfl
          | false => have := hc.ntrans _ _ _ e h; rw [hx] at this; cases this
theorem takeWhile_last {c : Int → Bool} {l : List Int} {A' : List Int} {y : Int} (h : l.takeWhile (fun e => !c e) = A' ++ [y]) : c y = false := by
  have hm : y ∈ l.takeWhile (fun e => !c e) := by rw [h]; simp
  have h2 : ∀ x ∈ l.takeWhile (fun e => !c e), (!c x) = true := by
    intro x hx
    have := List.all_takeWhile (p := fun e => !c e) (l := l)
    exact List.all_eq_true.1 this x hx
  have := h2 y hm
  simpa using this
theorem ordN_ok (sp : List GSpot) : ∀ n, (ordN sp n).Perm (tab idf n) ∧ (ordN sp n).Pairwise (RS (cS sp))
  | 0 => ⟨List.Perm.refl _, List.Pairwise.nil⟩
  | n + 1 => by
    obtain ⟨hp, hw⟩ := ordN_ok sp n
    have hlt : ∀ y ∈ ordN sp n, y < (n : Int) := fun y hy => by
      have := hp.mem_iff.1 hy
      unfold tab at this
      obtain ⟨k, hk, rfl⟩ := List.mem_map.1 this
      have := List.mem_range.1 hk; simp only [idf]; omega
    have e : (ordN sp n).takeWhile (fun e => !cS sp n e) ++ (ordN sp n).dropWhile (fun e => !cS sp n e) = ordN sp n := List.takeWhile_append_dropWhile
    refine ⟨?_, ?_⟩
    · show (insO sp (ordN sp n) n).Perm _
      unfold insO
      refine List.perm_middle.trans ?_
      have et : tab idf (n + 1) = tab idf n ++ [(n : Int)] := by unfold tab; rw [List.range_succ, List.map_append]; rfl
      rw [e, et]
      exact (List.perm_append_singleton _ _).symm.trans (hp.append_right _)
    · show (insO sp (ordN sp n) n).Pairwise _
      unfold insO
      refine put_fits (cS_sw sp) (by rw [e]; exact hw) (by rw [e]; exact hlt) (fun A' y h => takeWhile_last h) (sorted_drop (cS_sw sp) hw hlt)
theorem ordI_ok (sp : List GSpot) : Ord sp (ordI sp) := ⟨(ordN_ok sp sp.length).1, (ordN_ok sp sp.length).2⟩
theorem Ord.eq {sp : List GSpot} {t : List Int} (h : Ord sp t) : t = ordI sp := h.uniq (ordI_ok sp)
/-- The spots that count, by their numbers. -/
def cntI (l : List GContract) (sp : List GSpot) : List Int := outOf l sp (ordI sp)
abbrev cntS (l : List GContract) (sp : List GSpot) : List GSpot := spAt sp (cntI l sp)
theorem cntI_mem {l : List GContract} {sp : List GSpot} {x : Int} (hx : x ∈ cntI l sp) : 0 ≤ x ∧ x < sp.length := (ordI_ok sp).mem (outOf_mem hx)
theorem cntI_len (l : List GContract) (sp : List GSpot) : (cntI l sp).length ≤ sp.length := by
  have := outOf_len (l := l) (sp := sp) (ordI sp); rw [(ordI_ok sp).len] at this; exact this
def okI (l : List GContract) (sp : List GSpot) : Bool := validC l && validP sp
def countedI (l : List GContract) (sp : List GSpot) : List Int × Int := if okI l sp then (cntI l sp, 0) else ([], 120)
def missI (cnt : List GSpot) (now : Int) (c : GContract) : Int := if c.Window.To ≤ now then c.Count - cntC cnt c.ID else 0
def missingI (l : List GContract) (sp : List GSpot) (now : Int) : List Int × Int := if okI l sp && inR now 0 10000000 then (l.map (missI (cntS l sp) now), 0) else ([], 120)
theorem btw_is {n lo hi : Int} {b : Bool} {w0 : World} (h : inR n lo hi = b) : CallsV Tryd.prog 65 #[.int .i64 n, .int .i64 lo, .int .i64 hi] w0 (.bool b) := by rw [← h]; exact btw_spec
theorem okI_t {l : List GContract} {sp : List GSpot} (h : okI l sp = true) : validC l = true ∧ validP sp = true := Bool.and_eq_true_iff.1 h
theorem okI_f {l : List GContract} {sp : List GSpot} (h : okI l sp = false) : ¬ (validC l = true ∧ validP sp = true) := fun e => by
  unfold okI at h; rw [e.1, e.2] at h; cases h
/-- The answer of a function with a row and an error. -/
abbrev RowE (w0 : World) (r : List Int × Int) (v : Value) (w' : World) : Prop := ∃ vo, v = .tuple #[vo, .int .i64 r.2] ∧ NewRow (fInt .i64) 3 w0 w' vo r.1
abbrev talO (bt b1 b2 b3 b4 : Nat) (l : List GContract) (Sp : List (GSpot × Bool)) (Mn : List (Int × Int)) (Dy : List (GDay × Int)) (vo : Value) (out : List Int) : List Ob :=
  [mapOb eI eC b1 (cM l), mapOb eP eB b2 Sp, mapOb eI eI b3 Mn, mapOb eD eI b4 Dy, .var bt 134 [.map (some b1), .map (some b2), .map (some b3), .map (some b4)], rowOb (fInt .i64) 3 vo out]
theorem count_run {l : List GContract} {sp : List GSpot} {v1 v2 : Value} {w0 : World} (hr1 : Rd fGContract.ty w0 v1 l) (hr2 : Rd fGSpot.ty w0 v2 sp) (h : okI l sp = true) (hG : TblAt w0) :
    CallsR Tryd.prog 43 #[v1, v2] w0 (fun r w' => ∃ (bt b1 b2 b3 b4 : Nat) (Sp : List (GSpot × Bool)) (Mn : List (Int × Int)) (Dy : List (GDay × Int)) (vo : Value), r = .tuple #[.pointer (some ⟨bt, 0, none⟩), vo, .int .i64 0] ∧ Tal l (cntS l sp) (cM l) Sp Mn Dy ∧ St w0 w' (talO bt b1 b2 b3 b4 l Sp Mn Dy vo (cntI l sp))) := by
  obtain ⟨h1, h2⟩ := okI_t h
  refine callsR_mono (count_ok hr1 hr2 h1 h2 hG) ?_
  rintro v w' ⟨bt, b1, b2, b3, b4, Sp, Mn, Dy, vo, turn, hO, rfl, hT, S⟩
  have e := hO.eq
  subst e
  exact ⟨bt, b1, b2, b3, b4, Sp, Mn, Dy, vo, rfl, hT, S⟩
theorem counted_run {l : List GContract} {sp : List GSpot} {v1 v2 : Value} {w0 : World} (hr1 : Rd fGContract.ty w0 v1 l) (hr2 : Rd fGSpot.ty w0 v2 sp) (hl : l.length ≤ 1000000000) (hl2 : sp.length ≤ 1000000000) (hG : TblAt w0) :
    CallsR Tryd.prog 24 #[v1, v2] w0 (RowE w0 (countedI l sp)) := by
  have S := St.start w0
  refine CallsR.mk ?_
  refine calls_enter Tryd.func24 rfl (by intro _ h; first | exact nomatch h.1 | (obtain ⟨_, h, _⟩ := h; exact nomatch h)) Tryd.ntmps24 rfl ?_
  cases h : okI l sp with
  | false =>
    repeat' (first | refine WP_seq ?_ | refine WP_region ?_ | refine wl_nil ?_ | refine then_normal ?_ | refine WP_ret ?_ | (refine g_move ?_; refine st_move rfl ?_) | (refine g_assign ?_; refine st_assign rfl ?_) | (refine g_extract ?_; refine st_val rfl (r_extract rfl rfl) ?_) | (refine g_callV ?_; (refine st_callV rfl (r_call2 rfl rfl rfl) (count_no (hr1.mono S.below) (hr2.mono S.below) hl hl2 (okI_f h)) ?_; intro w hb; replace S := S.grow hb; clear hb)))
    exact end2 rfl rfl rfl ⟨_, rfl, S.below, _, by unfold countedI; rw [h]; rfl, by unfold countedI; rw [h]; exact NewRow.nil _ _ _ _⟩
  | true =>
    repeat' (first | refine WP_seq ?_ | refine WP_region ?_ | refine wl_nil ?_ | refine then_normal ?_ | (refine g_move ?_; refine st_move rfl ?_) | (refine g_assign ?_; refine st_assign rfl ?_))
    refine st_callR rfl (r_call2 rfl rfl rfl) (count_run (hr1.mono S.below) (hr2.mono S.below) h (hG.mono S.below)) ?_
    rintro _ w hb ⟨bt, b1, b2, b3, b4, Sp, Mn, Dy, vo, rfl, hT, S'⟩
    replace S := S.join S'; clear S'
    repeat' (first | refine WP_seq ?_ | refine WP_region ?_ | refine wl_nil ?_ | refine then_normal ?_ | refine WP_ret ?_ | (refine g_move ?_; refine st_move rfl ?_) | (refine g_assign ?_; refine st_assign rfl ?_) | (refine g_extract ?_; refine st_val rfl (r_extract rfl rfl) ?_))
    exact end2 rfl rfl rfl ⟨_, rfl, S.below, vo, by unfold countedI; rw [h]; rfl, by unfold countedI; rw [h]; exact S.row (i := 5) rfl⟩
theorem inR_t {n lo hi : Int} (h : inR n lo hi = true) : lo ≤ n ∧ n ≤ hi := of_decide_eq_true h
theorem take_map {f : GContract → Int} {l : List GContract} {i : Int} (h0 : 0 ≤ i) (hi : i < l.length) : (l.take (i + 1).toNat).map f = (l.take i.toNat).map f ++ [f (nth l i)] := by
  rw [show (i + 1).toNat = i.toNat + 1 by omega, List.take_add_one, nth_get h0 hi, Option.toList_some, List.map_append]; rfl
theorem missingC_run {l : List GContract} {sp : List GSpot} {t : Int} {v1 v2 : Value} {w0 : World} (hr1 : Rd fGContract.ty w0 v1 l) (hr2 : Rd fGSpot.ty w0 v2 sp) (hl : l.length ≤ 1000000000) (hl2 : sp.length ≤ 1000000000) (hG : TblAt w0) :
    CallsR Tryd.prog 44 #[v1, v2, .int .i64 t] w0 (RowE w0 (missingI l sp t)) := by
  have S := St.start w0
  obtain ⟨A, c, rfl⟩ := hr1.len
  refine CallsR.mk ?_
  refine calls_enter Tryd.func44 rfl (by intro _ h; first | exact nomatch h.1 | (obtain ⟨_, h, _⟩ := h; exact nomatch h)) Tryd.ntmps44 rfl ?_
  cases h : okI l sp with
  | false =>
    repeat' (first | refine WP_seq ?_ | refine WP_region ?_ | refine wl_nil ?_ | refine then_normal ?_ | refine then_ret ?_ | refine WP_ret ?_ | refine WP_condT rfl ?_ | (refine g_guard ?_; refine st_off rfl ?_) | (refine g_move ?_; refine st_move rfl ?_) | (refine g_assign ?_; refine st_assign rfl ?_) | (refine g_pick ?_; refine st_pickT rfl rfl ?_) | (refine g_b_neq ?_; refine st_val rfl (r_neq rfl rfl) ?_) | (refine g_extract ?_; refine st_val rfl (r_extract rfl rfl) ?_) | (refine g_callV ?_; (refine st_callV rfl (r_call2 rfl rfl rfl) (count_no (hr1.mono S.below) (hr2.mono S.below) hl hl2 (okI_f h)) ?_; intro w hb; replace S := S.grow hb; clear hb)))
    exact end2 rfl rfl rfl ⟨_, rfl, S.below, _, by unfold missingI; rw [h]; rfl, by unfold missingI; rw [h]; exact NewRow.nil _ _ _ _⟩
  | true =>
    have hl12 := validC_len (okI_t h).1
    have hp60 := validP_len (okI_t h).2
    have hcl60 : (cntS l sp).length ≤ 60 := by unfold cntS spAt; rw [List.length_map]; have := cntI_len l sp; omega
    repeat' (first | refine WP_seq ?_ | refine WP_region ?_ | refine wl_nil ?_ | refine then_normal ?_ | (refine g_move ?_; refine st_move rfl ?_) | (refine g_assign ?_; refine st_assign rfl ?_))
    refine st_callR rfl (r_call2 rfl rfl rfl) (count_run (hr1.mono S.below) (hr2.mono S.below) h (hG.mono S.below)) ?_
    rintro _ w hb ⟨bt, b1, b2, b3, b4, Sp, Mn, Dy, vo, rfl, hT, S'⟩
    replace S := S.join S'; clear S'
    cases ht : inR t 0 10000000 with
    | false =>
      repeat' (first | refine WP_seq ?_ | refine WP_region ?_ | refine wl_nil ?_ | refine then_normal ?_ | refine then_ret ?_ | refine WP_ret ?_ | refine WP_condT rfl ?_ | (refine g_move ?_; refine st_move rfl ?_) | (refine g_assign ?_; refine st_assign rfl ?_) | (refine g_pick ?_; refine st_pickF rfl rfl ?_) | (refine g_b_neq ?_; refine st_val rfl (r_neq rfl rfl) ?_) | (refine g_un ?_; refine st_val rfl (r_not rfl) ?_) | (refine g_extract ?_; refine st_val rfl (r_extract rfl rfl) ?_) | (refine g_callV ?_; (refine st_callV rfl (r_call3 rfl rfl rfl rfl) (btw_is ht) ?_; intro w hb; replace S := S.grow hb; clear hb)))
      exact end2 rfl rfl rfl ⟨_, rfl, S.below, _, by unfold missingI; rw [h, ht]; rfl, by unfold missingI; rw [h, ht]; exact NewRow.nil _ _ _ _⟩
    | true =>
      have htr := inR_t ht
      have em : missingI l sp t = (l.map (missI (cntS l sp) t), 0) := by unfold missingI; rw [h, ht]; rfl
      rw [em]
      repeat' (first | refine WP_seq ?_ | refine WP_region ?_ | refine wl_nil ?_ | refine then_normal ?_ | refine WP_skip ?_ | refine WP_block ?_ | refine WP_condF rfl ?_ | (refine g_move ?_; refine st_move rfl ?_) | (refine g_assign ?_; refine st_assign rfl ?_) | (refine g_pick ?_; refine st_pickF rfl rfl ?_) | (refine g_b_neq ?_; refine st_val rfl (r_neq rfl rfl) ?_) | (refine g_un ?_; refine st_val rfl (r_not rfl) ?_) | (refine g_extract ?_; refine st_val rfl (r_extract rfl rfl) ?_) | (refine g_c_len ?_; refine st_val rfl (r_lenSlice rfl) ?_) | (refine g_callV ?_; (refine st_callV rfl (r_call3 rfl rfl rfl rfl) (btw_is ht) ?_; intro w hb; replace S := S.grow hb; clear hb)))
      replace S := S.nilRow (fInt .i64) 3
      refine WP_loop (fun k σ w1 => ∃ (i : Int) (vr : Value), Has σ [(2, .int .i64 t), (8, .pointer (some ⟨bt, 0, none⟩)), (11, vr), (29, .slice A l.length c), (30, .int .i64 l.length), (31, .int .i64 i)] ∧ St w0 w1 (talO bt b1 b2 b3 b4 l Sp Mn Dy vo (cntI l sp) ++ [rowOb (fInt .i64) 3 vr ((l.take i.toNat).map (missI (cntS l sp) t))]) ∧ 0 ≤ i ∧ i ≤ l.length ∧ k = l.length - i.toNat) l.length ⟨0, _, ⟨rfl, rfl, rfl, rfl, rfl, rfl, trivial⟩, S, by omega, by omega, by omega⟩ ?_
      clear S
      rintro k σ w1 ⟨i, vr, hs, S, hi0, hi1, hk⟩
      refine WP_has hs ?_
      by_cases hi : i < l.length
      · have hstep := take_map (f := missI (cntS l sp) t) hi0 hi
        have hlr : ((l.take i.toNat).map (missI (cntS l sp) t)).length ≤ 12 := by rw [List.length_map, List.length_take]; omega
        have hcm := hT.m (nth l i).ID
        have hcr := @cntC_le (cntS l sp) (nth l i).ID
        have hok := valid_ok (okI_t h).1 (nth_mem hi0 hi)
        have hcnt : 1 ≤ (nth l i).Count ∧ (nth l i).Count ≤ 50 := by
          unfold okC okN at hok
          simp only [Bool.and_eq_true, decide_eq_true_eq] at hok
          omega
        obtain ⟨z, hz⟩ : ∃ z, missI (cntS l sp) t (nth l i) = z := ⟨_, rfl⟩
        have hz' := hz
        unfold missI at hz'
        rw [← hcm] at hz'
        by_cases h0 : (nth l i).Window.To ≤ t
        · rw [if_pos h0] at hz'
          repeat' (first | refine WP_seq ?_ | refine WP_region ?_ | refine wl_nil ?_ | refine then_normal ?_ | refine WP_skip ?_ | refine WP_block ?_ | refine WP_draw (by kernel_rfl) (by kernel_rfl) ?_ | (refine ql_nil ?_; intro w hb; replace S := S.grow hb; clear hb) | (refine g_move ?_; refine st_move rfl ?_) | (refine g_assign ?_; refine st_assign rfl ?_) | (refine g_b_lss ?_; refine st_val rfl (r_lss rfl rfl) ?_) | (refine g_b_leq ?_; refine st_val rfl (r_leq rfl rfl) ?_) | (refine g_fieldAddr ?_; refine st_val rfl (r_fieldAddrL rfl) ?_) | (refine g_indexAddr ?_; (refine st_val rfl (r_indexAddr (hr1.mono S.below) rfl rfl ?_ ?_) ?_; (first | omega | (simp <;> omega)); (first | omega | (simp <;> omega)))) | (refine g_load ?_; first | (refine st_val rfl (r_loadElem (hr1.mono S.below) rfl ?_ ?_) ?_; (first | omega | (simp <;> omega)); (first | omega | (simp <;> omega))) | refine st_val rfl (r_loadVar (i := 7) S rfl rfl rfl) ?_) | (refine gq_move ?_; refine q_move rfl ?_) | (refine gq_assign ?_; refine q_assign rfl ?_) | (refine gq_b_sub ?_; (refine q_val rfl (fun w' hb => r_subN rfl rfl ?_ ?_) ?_; (first | omega | (simp <;> omega)); (first | omega | (simp <;> omega)))) | (refine gq_nilCheck ?_; refine q_val rfl (fun w' hb => r_nilCheck rfl) ?_) | (refine gq_fieldAddr ?_; refine q_val rfl (fun w' hb => r_fieldAddrL rfl) ?_) | (refine gq_load ?_; first | refine q_val rfl (fun w' hb => r_loadVar (i := 4) (S.grow hb) rfl rfl rfl) ?_ | refine q_val rfl (fun w' hb => r_loadVar (i := 7) (S.grow hb) rfl rfl rfl) ?_) | (refine g_alloc ?_; refine st_valE rfl (r_alloc S) ?_; rintro _ w ⟨b, rfl, -, S'⟩; replace S := S'; clear S') | (refine g_store ?_; first | (refine st_skipE rfl (r_storeVar (i := 0) S rfl rfl rfl rfl (of_decide_eq_true rfl) (of_decide_eq_true rfl)) ?_; intro w S'; replace S := S'; clear S') | (refine st_skipE rfl (r_storeVar (i := 1) S rfl rfl rfl rfl (of_decide_eq_true rfl) (of_decide_eq_true rfl)) ?_; intro w S'; replace S := S'; clear S') | (refine st_skipE rfl (r_storeVar (i := 2) S rfl rfl rfl rfl (of_decide_eq_true rfl) (of_decide_eq_true rfl)) ?_; intro w S'; replace S := S'; clear S') | (refine st_skipE rfl (r_storeVar (i := 3) S rfl rfl rfl rfl (of_decide_eq_true rfl) (of_decide_eq_true rfl)) ?_; intro w S'; replace S := S'; clear S') | (refine st_skipE rfl (r_storeVar (i := 4) S rfl rfl rfl rfl (of_decide_eq_true rfl) (of_decide_eq_true rfl)) ?_; intro w S'; replace S := S'; clear S') | (refine st_skipE rfl (r_storeVar (i := 5) S rfl rfl rfl rfl (of_decide_eq_true rfl) (of_decide_eq_true rfl)) ?_; intro w S'; replace S := S'; clear S') | (refine st_skipE rfl (r_storeVar (i := 6) S rfl rfl rfl rfl (of_decide_eq_true rfl) (of_decide_eq_true rfl)) ?_; intro w S'; replace S := S'; clear S') | (refine st_skipE rfl (r_storeVar (i := 7) S rfl rfl rfl rfl (of_decide_eq_true rfl) (of_decide_eq_true rfl)) ?_; intro w S'; replace S := S'; clear S')) | (refine q_val rfl (fun w' hb => r_lookup1D (k := (nth l i).ID) (eK := eI) (eV := eI) 0 rfl ((S.grow hb).mapAt (i := 2) rfl) rfl rfl) ?_) | (refine WP_cond rfl (fun h => ?_) (fun h => ?_) <;> (fail_if_success (have hh : true = true := h)) <;> (fail_if_success (have hh : false = false := h)) <;> (try simp only [decide_eq_true_eq, decide_eq_false_iff_not, Bool.not_eq_true', Bool.not_eq_false', Int.not_lt, Int.not_le] at h) <;> (try (exfalso; omega))))
          refine st_valE rfl (r_litF (D := fInt .i64) [z] (Value.int .i64) S (by rw [← hz']; rfl) rfl (fun _ => rfl) rfl (by decide) (by decide)) ?_
          rintro _ w ⟨bl, rfl, -, hcl, S'⟩; replace S := S'; clear S'
          refine st_valE rfl (r_append1 (D := fInt .i64) (i := 6) (b := bl) (x := z) S rfl rfl rfl (fl_one hcl) rfl (by decide) (of_decide_eq_true rfl) (by omega) (by omega)) ?_
          rintro vr' w ⟨-, S'⟩; replace S := S'; clear S' hcl
          repeat' (first | refine WP_region ?_ | refine wl_nil ?_ | refine then_normal ?_ | refine inB_normal ?_ | (refine g_move ?_; refine st_move rfl ?_) | (refine g_assign ?_; refine st_assign rfl ?_) | (refine g_b_add ?_; (refine st_val rfl (r_addN rfl rfl ?_ ?_) ?_; (first | omega | (simp <;> omega)); (first | omega | (simp <;> omega)))))
          refine ⟨⟨_, ?_, i + 1, vr', ⟨rfl, rfl, rfl, rfl, rfl, rfl, trivial⟩, by rw [hstep, hz]; exact S.keep [true, true, true, true, true, true, true], by omega, by omega, rfl⟩⟩
          omega
        · rw [if_neg h0] at hz'
          repeat' (first | refine WP_seq ?_ | refine WP_region ?_ | refine wl_nil ?_ | refine then_normal ?_ | refine WP_skip ?_ | refine WP_block ?_ | (refine g_move ?_; refine st_move rfl ?_) | (refine g_assign ?_; refine st_assign rfl ?_) | (refine g_b_lss ?_; refine st_val rfl (r_lss rfl rfl) ?_) | (refine g_b_leq ?_; refine st_val rfl (r_leq rfl rfl) ?_) | (refine g_fieldAddr ?_; refine st_val rfl (r_fieldAddrL rfl) ?_) | (refine g_indexAddr ?_; (refine st_val rfl (r_indexAddr (hr1.mono S.below) rfl rfl ?_ ?_) ?_; (first | omega | (simp <;> omega)); (first | omega | (simp <;> omega)))) | (refine g_load ?_; first | (refine st_val rfl (r_loadElem (hr1.mono S.below) rfl ?_ ?_) ?_; (first | omega | (simp <;> omega)); (first | omega | (simp <;> omega))) | refine st_val rfl (r_loadVar (i := 7) S rfl rfl rfl) ?_) | (refine g_alloc ?_; refine st_valE rfl (r_alloc S) ?_; rintro _ w ⟨b, rfl, -, S'⟩; replace S := S'; clear S') | (refine g_store ?_; first | (refine st_skipE rfl (r_storeVar (i := 0) S rfl rfl rfl rfl (of_decide_eq_true rfl) (of_decide_eq_true rfl)) ?_; intro w S'; replace S := S'; clear S') | (refine st_skipE rfl (r_storeVar (i := 1) S rfl rfl rfl rfl (of_decide_eq_true rfl) (of_decide_eq_true rfl)) ?_; intro w S'; replace S := S'; clear S') | (refine st_skipE rfl (r_storeVar (i := 2) S rfl rfl rfl rfl (of_decide_eq_true rfl) (of_decide_eq_true rfl)) ?_; intro w S'; replace S := S'; clear S') | (refine st_skipE rfl (r_storeVar (i := 3) S rfl rfl rfl rfl (of_decide_eq_true rfl) (of_decide_eq_true rfl)) ?_; intro w S'; replace S := S'; clear S') | (refine st_skipE rfl (r_storeVar (i := 4) S rfl rfl rfl rfl (of_decide_eq_true rfl) (of_decide_eq_true rfl)) ?_; intro w S'; replace S := S'; clear S') | (refine st_skipE rfl (r_storeVar (i := 5) S rfl rfl rfl rfl (of_decide_eq_true rfl) (of_decide_eq_true rfl)) ?_; intro w S'; replace S := S'; clear S') | (refine st_skipE rfl (r_storeVar (i := 6) S rfl rfl rfl rfl (of_decide_eq_true rfl) (of_decide_eq_true rfl)) ?_; intro w S'; replace S := S'; clear S') | (refine st_skipE rfl (r_storeVar (i := 7) S rfl rfl rfl rfl (of_decide_eq_true rfl) (of_decide_eq_true rfl)) ?_; intro w S'; replace S := S'; clear S')) | (refine WP_cond rfl (fun h => ?_) (fun h => ?_) <;> (fail_if_success (have hh : true = true := h)) <;> (fail_if_success (have hh : false = false := h)) <;> (try simp only [decide_eq_true_eq, decide_eq_false_iff_not, Bool.not_eq_true', Bool.not_eq_false', Int.not_lt, Int.not_le] at h) <;> (try (exfalso; omega))))
          refine st_valE rfl (r_litF (D := fInt .i64) [z] (Value.int .i64) S (by rw [← hz']; rfl) rfl (fun _ => rfl) rfl (by decide) (by decide)) ?_
          rintro _ w ⟨bl, rfl, -, hcl, S'⟩; replace S := S'; clear S'
          refine st_valE rfl (r_append1 (D := fInt .i64) (i := 6) (b := bl) (x := z) S rfl rfl rfl (fl_one hcl) rfl (by decide) (of_decide_eq_true rfl) (by omega) (by omega)) ?_
          rintro vr' w ⟨-, S'⟩; replace S := S'; clear S' hcl
          repeat' (first | refine WP_region ?_ | refine wl_nil ?_ | refine then_normal ?_ | refine inB_normal ?_ | (refine g_move ?_; refine st_move rfl ?_) | (refine g_assign ?_; refine st_assign rfl ?_) | (refine g_b_add ?_; (refine st_val rfl (r_addN rfl rfl ?_ ?_) ?_; (first | omega | (simp <;> omega)); (first | omega | (simp <;> omega)))))
          refine ⟨⟨_, ?_, i + 1, vr', ⟨rfl, rfl, rfl, rfl, rfl, rfl, trivial⟩, by rw [hstep, hz]; exact S.keep [true, true, true, true, true, true, true], by omega, by omega, rfl⟩⟩
          omega
      · have hit : i.toNat = l.length := by omega
        rw [hit, List.take_length] at S
        repeat' (first | refine WP_seq ?_ | refine WP_region ?_ | refine wl_nil ?_ | refine then_normal ?_ | refine then_exit ?_ | refine inB_here ?_ | refine WP_ret ?_ | refine WP_exit ?_ | (refine g_move ?_; refine st_move rfl ?_) | (refine g_assign ?_; refine st_assign rfl ?_) | (refine g_b_lss ?_; refine st_val rfl (r_lss rfl rfl) ?_) | (refine WP_cond rfl (fun h => ?_) (fun h => ?_) <;> (fail_if_success (have hh : true = true := h)) <;> (fail_if_success (have hh : false = false := h)) <;> (try simp only [decide_eq_true_eq, decide_eq_false_iff_not, Bool.not_eq_true', Bool.not_eq_false', Int.not_lt, Int.not_le] at h) <;> (try (exfalso; omega))))
        exact end2 rfl rfl rfl ⟨_, rfl, S.below, vr, rfl, S.row (i := 6) rfl⟩
end Go.Proofs.YtgdmaadikcnagaaDoor
namespace Go.Proofs.YtgdmaadikcnagaaDoor
open Go Go.Gx Go.RowKit
set_option linter.unusedVariables false
set_option linter.unusedSimpArgs false

theorem spAt_len (sp : List GSpot) (out : List Int) : (spAt sp out).length = out.length := by unfold spAt; rw [List.length_map]
theorem spAt_take {sp : List GSpot} {out : List Int} {i : Int} (h0 : 0 ≤ i) (hi : i < out.length) : spAt sp (out.take (i + 1).toNat) = spAt sp (out.take i.toNat) ++ [nth sp (nth out i)] := by
  rw [show (i + 1).toNat = i.toNat + 1 by omega, List.take_add_one, nth_get h0 hi]
  unfold spAt; rw [List.map_append]; rfl
end Go.Proofs.YtgdmaadikcnagaaDoor
namespace Go.Proofs.YtgdmaadikcnagaaDoor
open Go Go.Gx Go.RowKit
set_option linter.unusedVariables false
set_option linter.unusedSimpArgs false

end Go.Proofs.YtgdmaadikcnagaaDoor
namespace Go.Proofs.YtgdmaadikcnagaaDoor
open Go Go.Gx Go.RowKit
set_option linter.unusedVariables false
set_option linter.unusedSimpArgs false

end Go.Proofs.YtgdmaadikcnagaaDoor
namespace Go.Proofs.YtgdmaadikcnagaaDoor
open Go Go.Gx Go.RowKit
set_option linter.unusedVariables false
set_option linter.unusedSimpArgs false

def pickI (c n : Int) : Int := (if c < 0 then -(c + 1) else c) % n
theorem pickI_range {c n : Int} (hn : 0 < n) : 0 ≤ pickI c n ∧ pickI c n < n := ⟨Int.emod_nonneg _ (by omega), Int.emod_lt_of_pos _ hn⟩
theorem pickC_spec {c n : Int} {w : World} (hc0 : -9223372036854775808 ≤ c) (hc : c ≤ 9223372036854775807) (hn : 0 < n) : CallsV Tryd.prog 42 #[.int .i64 c, .int .i64 n] w (.int .i64 (pickI c n)) := by
  have S := St.start w
  refine CallsV.mk ?_
  refine calls_enter Tryd.func42 rfl (by intro _ h; first | exact nomatch h.1 | (obtain ⟨_, h, _⟩ := h; exact nomatch h)) Tryd.ntmps42 rfl ?_
  repeat' (first | refine WP_seq ?_ | refine WP_region ?_ | refine wl_nil ?_ | refine then_normal ?_ | refine WP_ret ?_ | refine WP_skip ?_ | (refine g_move ?_; refine st_move rfl ?_) | (refine g_assign ?_; refine st_assign rfl ?_) | (refine g_b_add ?_; (refine st_val rfl (r_addN rfl rfl ?_ ?_) ?_; (first | omega | (simp <;> omega)); (first | omega | (simp <;> omega)))) | (refine g_b_rem ?_; (refine st_val rfl (r_remN rfl rfl ?_ ?_) ?_; (first | omega | (simp <;> omega)); (first | omega | (simp <;> omega)))) | (refine g_b_lss ?_; refine st_val rfl (r_lss rfl rfl) ?_) | (refine g_un ?_; (refine st_val rfl (r_negN rfl ?_ ?_) ?_; (first | omega | (simp <;> omega)); (first | omega | (simp <;> omega)))) | (refine WP_cond rfl (fun h => ?_) (fun h => ?_) <;> (fail_if_success (have hh : true = true := h)) <;> (fail_if_success (have hh : false = false := h)) <;> (try simp only [decide_eq_true_eq, decide_eq_false_iff_not, Bool.not_eq_true', Bool.not_eq_false', Int.not_lt, Int.not_le] at h) <;> (try (exfalso; omega))))
  · exact end1 rfl rfl ⟨ri (by unfold pickI; rw [if_pos h]), S.below⟩
  · exact end1 rfl rfl ⟨ri (by unfold pickI; rw [if_neg (by omega)]), S.below⟩
theorem one_sp : ∀ (x : GSpot), ∀ u ∈ fGSpot.enc x, u.oneCell' = true := by intro x u hu; simp [fGSpot, GSpot.enc] at hu; rcases hu with rfl | rfl <;> rfl
end Go.Proofs.YtgdmaadikcnagaaDoor
namespace Go.Proofs.YtgdmaadikcnagaaDoor
open Go Go.Gx Go.RowKit
set_option linter.unusedVariables false
set_option linter.unusedSimpArgs false

theorem counted_t {l : List GContract} {sp : List GSpot} (h : okI l sp = true) : countedI l sp = (cntI l sp, 0) := by unfold countedI; rw [h]; rfl
end Go.Proofs.YtgdmaadikcnagaaDoor
namespace Go.Proofs.YtgdmaadikcnagaaDoor
open Go Go.Gx Go.RowKit
set_option linter.unusedVariables false
set_option linter.unusedSimpArgs false

def okA8 (x : GArr8Int) : Prop := inI x.a0 ∧ inI x.a1 ∧ inI x.a2 ∧ inI x.a3 ∧ inI x.a4 ∧ inI x.a5 ∧ inI x.a6 ∧ inI x.a7
def okA2 (x : GArr2Int) : Prop := inI x.a0 ∧ inI x.a1
def orW (x d : Int) : Int := bitsOp .or .i64 x (IntKind.i64.wrap (1 * 2 ^ (min d.toNat IntKind.i64.bits)))
def wkF (K : GArr8Int) (d : Nat) : Int := if 0 < pickI K.a6 3 then orW (pickI K.a6 16777216) (d : Int) else 16777215
def wkN (f : Nat → Int) (n : Nat) : GWeek := ⟨if 0 < n then f 0 else 0, if 1 < n then f 1 else 0, if 2 < n then f 2 else 0, if 3 < n then f 3 else 0, if 4 < n then f 4 else 0, if 5 < n then f 5 else 0, if 6 < n then f 6 else 0⟩
def madeC (i : Int) (K : GArr8Int) : GContract := ⟨10 * i + pickI K.a0 10, pickI K.a1 4, pickI K.a2 3, pickI K.a3 200, 1 + pickI K.a3 6, 1 + pickI K.a4 (1 + pickI K.a3 6), pickI K.a4 2000, pickI K.a5 1000, wkN (wkF K) 7, ⟨pickI K.a7 100000, pickI K.a7 100000 + 1 + pickI K.a5 300000⟩⟩
def madeN (xs : List GArr8Int) (n : Nat) : List GContract := (List.range n).map fun (i : Nat) => madeC (i : Int) (nth xs (i : Int))
def madeL (xs : List GArr8Int) : List GContract := madeN xs (min xs.length 8)
theorem madeN_succ (xs : List GArr8Int) (n : Nat) : madeN xs (n + 1) = madeN xs n ++ [madeC (n : Int) (nth xs (n : Int))] := by unfold madeN; rw [List.range_succ, List.map_append]; rfl
theorem madeN_len (xs : List GArr8Int) (n : Nat) : (madeN xs n).length = n := by simp [madeN]
set_option maxHeartbeats 4000000 in
theorem made_run {v : Value} {xs : List GArr8Int} {w0 : World} (hr : Rd fGArr8Int.ty w0 v xs) (hx : ∀ x ∈ xs, okA8 x) (hl : xs.length ≤ maxLen) :
    CallsR Tryd.prog 22 #[v] w0 (fun r w' => NewRow fGContract 76 w0 w' r (madeL xs)) := by
  have S := St.start w0
  have hml : maxLen ≤ 9223372036854775807 := by decide
  obtain ⟨A, c, rfl⟩ := hr.len
  refine CallsR.mk ?_
  refine calls_enter Tryd.func22 rfl (by intro _ h; first | exact nomatch h.1 | (obtain ⟨_, h, _⟩ := h; exact nomatch h)) Tryd.ntmps22 rfl ?_
  repeat' (first | refine WP_seq ?_ | refine WP_region ?_ | refine wl_nil ?_ | refine then_normal ?_ | refine WP_block ?_ | (refine g_assign ?_; refine st_assign rfl ?_))
  replace S := S.nilRow fGContract 76
  refine WP_loop (fun m σ w1 => ∃ (i : Nat) (p : Int) (vo : Value), Has σ [(0, .slice A xs.length c), (3, vo), (4, .int .i64 p)] ∧ St w0 w1 [rowOb fGContract 76 vo (madeN xs i)] ∧ p = i ∧ i ≤ min xs.length 8 ∧ m = 8 - i) 8 ⟨0, _, _, ⟨rfl, rfl, rfl, trivial⟩, S, rfl, by omega, rfl⟩ ?_
  clear S
  rintro m σ w1 ⟨i, p, vo, hs, S, hp, hi1, hm⟩
  refine WP_has hs ?_
  have hol := madeN_len xs i
  by_cases hi : i < min xs.length 8
  · obtain ⟨x0, x1, x2, x3, x4, x5, x6, x7⟩ := hx _ (nth_mem (l := xs) (i := p) (by omega) (by omega))
    unfold inI at x0 x1 x2 x3 x4 x5 x6 x7
    have r0 := pickI_range (c := (nth xs p).a0) (n := 10) (by omega)
    have r3 := pickI_range (c := (nth xs p).a3) (n := 6) (by omega)
    have r4 := pickI_range (c := (nth xs p).a4) (n := 1 + pickI (nth xs p).a3 6) (by omega)
    have r7 := pickI_range (c := (nth xs p).a7) (n := 100000) (by omega)
    have r5 := pickI_range (c := (nth xs p).a5) (n := 300000) (by omega)
    have r6 := pickI_range (c := (nth xs p).a6) (n := 3) (by omega)
    repeat' (first | refine WP_seq ?_ | refine WP_region ?_ | refine wl_nil ?_ | refine then_normal ?_ | refine WP_skip ?_ | refine WP_block ?_ | refine WP_drawTail 10 (by kernel_rfl) (by decide +kernel) ?_ | refine WP_drawGrow 47 48 (by kernel_rfl) (by decide +kernel) ?_ | refine wg_nil ?_ | (refine wg_val rfl (r_alloc S) (by rintro _ _ ⟨b, -, h, -⟩; exact h) ?_; rintro _ w ⟨b, rfl, -, S'⟩ w hb; replace S := S'.grow hb; clear S' hb) | (refine ql_nil ?_; intro w hb; replace S := S.grow hb; clear hb) | (refine g_move ?_; refine st_move rfl ?_) | (refine g_assign ?_; refine st_assign rfl ?_) | (refine g_pick ?_; refine st_pickT rfl rfl ?_) | (refine g_b_lss ?_; refine st_val rfl (r_lss rfl rfl) ?_) | (refine g_c_len ?_; refine st_val rfl (r_lenSlice rfl) ?_) | (refine gq_move ?_; refine q_move rfl ?_) | (refine gq_b_add ?_; (refine q_val rfl (fun w' hb => r_addN rfl rfl ?_ ?_) ?_; (first | omega | (simp <;> omega)); (first | omega | (simp <;> omega)))) | (refine gq_b_mul ?_; (refine q_val rfl (fun w' hb => r_mulN rfl rfl ?_ ?_) ?_; (first | omega | (simp <;> omega)); (first | omega | (simp <;> omega)))) | (refine gq_build ?_; refine q_val rfl (fun w' hb => bd76_0_1_2_3_4_6_7 rfl rfl rfl rfl rfl rfl rfl) ?_) | (refine gq_fieldAddr ?_; refine q_val rfl (fun w' hb => r_fieldAddrL rfl) ?_) | (refine gq_indexAddr ?_; first | (refine q_val rfl (fun w' hb => r_indexAddr (hr.mono (S.grow hb).below) rfl rfl ?_ ?_) ?_; (first | omega | (simp <;> omega)); (first | omega | (simp <;> omega))) | (refine q_val rfl (fun w' hb => r_indexAddrArrE rfl rfl ?_ ?_) ?_; (first | omega | (simp <;> omega)); (first | omega | (simp <;> omega)))) | (refine gq_load ?_; first | (refine q_val rfl (fun w' hb => r_loadElem1 (hr.mono (S.grow hb).below) rfl ?_ ?_ rfl) ?_; (first | omega | (simp <;> omega)); (first | omega | (simp <;> omega))) | (refine q_val rfl (fun w' hb => r_loadElemF (hr.mono (S.grow hb).below) rfl ?_ ?_ rfl) ?_; (first | omega | (simp <;> omega)); (first | omega | (simp <;> omega))) | refine q_val rfl (fun w' hb => r_loadVar (i := 1) (S.grow hb) rfl rfl rfl) ?_) | (refine gq_callV ?_; refine q_callV rfl (fun w' hb => r_call2 rfl rfl rfl) (fun w' hb => pickC_spec (by omega) (by omega) (by omega)) ?_) | (refine g_store ?_; first | (refine st_skipE rfl (r_storeVar (i := 0) S rfl rfl rfl rfl (of_decide_eq_true rfl) (of_decide_eq_true rfl)) ?_; intro w S'; replace S := S'; clear S') | (refine st_skipE rfl (r_storeVar (i := 1) S rfl rfl rfl rfl (of_decide_eq_true rfl) (of_decide_eq_true rfl)) ?_; intro w S'; replace S := S'; clear S')) | (refine wl_split rfl rfl (fun h => ?_) (fun h => ?_) <;> (fail_if_success (have hh : true = true := h)) <;> (fail_if_success (have hh : false = false := h)) <;> (try simp only [decide_eq_true_eq, decide_eq_false_iff_not, Bool.not_eq_true', Bool.not_eq_false', Int.not_lt, Int.not_le] at h) <;> (try (exfalso; omega))) | (refine WP_cond rfl (fun h => ?_) (fun h => ?_) <;> (fail_if_success (have hh : true = true := h)) <;> (fail_if_success (have hh : false = false := h)) <;> (try simp only [decide_eq_true_eq, decide_eq_false_iff_not, Bool.not_eq_true', Bool.not_eq_false', Int.not_lt, Int.not_le] at h) <;> (try (exfalso; omega))))
    refine WP_loop (fun m σ w1 => ∃ (d : Nat) (q : Int) (b : Nat), Has σ [(0, .slice A xs.length c), (3, vo), (4, .int .i64 p), (5, .pointer (some ⟨b, 0, none⟩)), (6, .int .i64 q)] ∧ St w0 w1 [rowOb fGContract 76 vo (madeN xs i), .var b 76 (GContract.enc ⟨10 * p + pickI (nth xs p).a0 10, pickI (nth xs p).a1 4, pickI (nth xs p).a2 3, pickI (nth xs p).a3 200, 1 + pickI (nth xs p).a3 6, 1 + pickI (nth xs p).a4 (1 + pickI (nth xs p).a3 6), pickI (nth xs p).a4 2000, pickI (nth xs p).a5 1000, wkN (wkF (nth xs p)) d, ⟨0, 0⟩⟩)] ∧ q = d ∧ d ≤ 7 ∧ m = 7 - d) 7 ⟨0, _, _, ⟨rfl, rfl, rfl, rfl, rfl, trivial⟩, S, rfl, by omega, rfl⟩ ?_
    clear S hs
    rintro m' σ w1 ⟨d, q, b, hs, S, hq, hd7, hm'⟩
    refine WP_has hs ?_
    by_cases hd : d = 7
    · subst hd
      have hq : q = 7 := by omega
      subst hq
      repeat' (first | refine WP_seq ?_ | refine WP_region ?_ | refine wl_nil ?_ | refine then_normal ?_ | refine then_exit ?_ | refine inB_here ?_ | refine WP_exit ?_ | refine WP_condF rfl ?_ | refine WP_drawTail 13 (by kernel_rfl) (by decide +kernel) ?_ | (refine ql_nil ?_; intro w hb; replace S := S.grow hb; clear hb) | (refine g_move ?_; refine st_move rfl ?_) | (refine g_b_lss ?_; refine st_val rfl (r_lss rfl rfl) ?_) | (refine g_fieldAddr ?_; refine st_val rfl (r_fieldAddrL rfl) ?_) | (refine g_indexAddr ?_; first | (refine st_val rfl (r_indexAddr (hr.mono S.below) rfl rfl ?_ ?_) ?_; (first | omega | (simp <;> omega)); (first | omega | (simp <;> omega))) | (refine st_val rfl (r_indexAddrArrE rfl rfl ?_ ?_) ?_; (first | omega | (simp <;> omega)); (first | omega | (simp <;> omega)))) | (refine g_load ?_; first | (refine st_val rfl (r_loadElemF (hr.mono S.below) rfl ?_ ?_ rfl) ?_; (first | omega | (simp <;> omega)); (first | omega | (simp <;> omega))) | refine st_val rfl (r_loadVarA (i := 1) S rfl rfl rfl rfl) ?_) | (refine g_callV ?_; (refine st_callV rfl (r_call2 rfl rfl rfl) (pickC_spec (by omega) (by omega) (by omega)) ?_; intro w hb; replace S := S.grow hb; clear hb)) | (refine gq_move ?_; refine q_move rfl ?_) | (refine gq_b_add ?_; (refine q_val rfl (fun w' hb => r_addN rfl rfl ?_ ?_) ?_; (first | omega | (simp <;> omega)); (first | omega | (simp <;> omega)))) | (refine gq_fieldAddr ?_; refine q_val rfl (fun w' hb => r_fieldAddrL rfl) ?_) | (refine gq_indexAddr ?_; first | (refine q_val rfl (fun w' hb => r_indexAddr (hr.mono (S.grow hb).below) rfl rfl ?_ ?_) ?_; (first | omega | (simp <;> omega)); (first | omega | (simp <;> omega))) | (refine q_val rfl (fun w' hb => r_indexAddrArrE rfl rfl ?_ ?_) ?_; (first | omega | (simp <;> omega)); (first | omega | (simp <;> omega)))) | (refine gq_load ?_; first | (refine q_val rfl (fun w' hb => r_loadElemF (hr.mono (S.grow hb).below) rfl ?_ ?_ rfl) ?_; (first | omega | (simp <;> omega)); (first | omega | (simp <;> omega))) | refine q_val rfl (fun w' hb => r_loadVar (i := 1) (S.grow hb) rfl rfl rfl) ?_) | (refine gq_callV ?_; refine q_callV rfl (fun w' hb => r_call2 rfl rfl rfl) (fun w' hb => pickC_spec (by omega) (by omega) (by omega)) ?_) | (refine g_store ?_; first | (refine st_skipE rfl (r_storeVar (i := 0) S rfl rfl rfl rfl (of_decide_eq_true rfl) (of_decide_eq_true rfl)) ?_; intro w S'; replace S := S'; clear S') | (refine st_skipE rfl (r_storeVar (i := 1) S rfl rfl rfl rfl (of_decide_eq_true rfl) (of_decide_eq_true rfl)) ?_; intro w S'; replace S := S'; clear S')))
      refine st_valE rfl (r_litF (D := fGContract) [madeC p (nth xs p)] (fun y => .agg y.enc.toArray) S rfl rfl (fun _ => rfl) rfl (by decide) (by decide)) ?_
      rintro _ w ⟨bl, rfl, -, hcl, S'⟩; replace S := S'; clear S'
      refine st_valE rfl (r_append1 (D := fGContract) (i := 0) (b := bl) (x := madeC p (nth xs p)) S rfl rfl rfl (fl_one hcl) rfl (by decide) (of_decide_eq_true rfl) (by omega) (by omega)) ?_
      rintro vo' w ⟨-, S'⟩; replace S := S'; clear S' hcl
      repeat' (first | refine WP_region ?_ | refine wl_nil ?_ | refine then_normal ?_ | refine inB_normal ?_ | (refine g_move ?_; refine st_move rfl ?_) | (refine g_assign ?_; refine st_assign rfl ?_) | (refine g_b_add ?_; (refine st_val rfl (r_addN rfl rfl ?_ ?_) ?_; (first | omega | (simp <;> omega)); (first | omega | (simp <;> omega)))))
      refine ⟨⟨_, ?_, i + 1, _, vo', ⟨rfl, rfl, rfl, trivial⟩, by rw [madeN_succ, ← hp]; exact S.keep [true], by omega, by omega, rfl⟩⟩
      omega
    have hdc : d = 0 ∨ d = 1 ∨ d = 2 ∨ d = 3 ∨ d = 4 ∨ d = 5 ∨ d = 6 := by omega
    by_cases h6 : 0 < pickI (nth xs p).a6 3
    · have ef : ∀ d : Nat, wkF (nth xs p) d = orW (pickI (nth xs p).a6 16777216) (d : Int) := fun d => if_pos h6
      rcases hdc with rfl | rfl | rfl | rfl | rfl | rfl | rfl
      · have hq : q = 0 := by omega
        subst hq
        repeat' (first | refine WP_seq ?_ | refine WP_region ?_ | refine wl_nil ?_ | refine then_normal ?_ | refine inB_normal ?_ | refine WP_skip ?_ | refine WP_block ?_ | refine WP_condT rfl ?_ | refine WP_drawTail 12 (by kernel_rfl) (by decide +kernel) ?_ | (refine ql_nil ?_; intro w hb; replace S := S.grow hb; clear hb) | (refine g_move ?_; refine st_move rfl ?_) | (refine g_assign ?_; refine st_assign rfl ?_) | (refine g_b_add ?_; (refine st_val rfl (r_addN rfl rfl ?_ ?_) ?_; (first | omega | (simp <;> omega)); (first | omega | (simp <;> omega)))) | (refine g_b_lss ?_; refine st_val rfl (r_lss rfl rfl) ?_) | (refine g_b_gtr ?_; refine st_val rfl (r_gtr rfl rfl) ?_) | (refine g_fieldAddr ?_; refine st_val rfl (r_fieldAddrL rfl) ?_) | (refine g_indexAddr ?_; first | (refine st_val rfl (r_indexAddr (hr.mono S.below) rfl rfl ?_ ?_) ?_; (first | omega | (simp <;> omega)); (first | omega | (simp <;> omega))) | (refine st_val rfl (r_indexAddrArrE rfl rfl ?_ ?_) ?_; (first | omega | (simp <;> omega)); (first | omega | (simp <;> omega))) | (refine st_val rfl (r_indexAddrArrL rfl rfl ?_ ?_) ?_; (first | omega | (simp <;> omega)); (first | omega | (simp <;> omega)))) | (refine g_load ?_; (refine st_val rfl (r_loadElemF (hr.mono S.below) rfl ?_ ?_ rfl) ?_; (first | omega | (simp <;> omega)); (first | omega | (simp <;> omega)))) | (refine g_callV ?_; (refine st_callV rfl (r_call2 rfl rfl rfl) (pickC_spec (by omega) (by omega) (by omega)) ?_; intro w hb; replace S := S.grow hb; clear hb)) | (refine gq_move ?_; refine q_move rfl ?_) | (refine gq_b_or ?_; refine q_val rfl (fun w' hb => r_or rfl rfl) ?_) | (refine gq_b_shl ?_; (refine q_val rfl (fun w' hb => r_shl rfl rfl ?_) ?_; (first | omega | (simp <;> omega)))) | (refine gq_fieldAddr ?_; refine q_val rfl (fun w' hb => r_fieldAddrL rfl) ?_) | (refine gq_indexAddr ?_; first | (refine q_val rfl (fun w' hb => r_indexAddr (hr.mono (S.grow hb).below) rfl rfl ?_ ?_) ?_; (first | omega | (simp <;> omega)); (first | omega | (simp <;> omega))) | (refine q_val rfl (fun w' hb => r_indexAddrArrE rfl rfl ?_ ?_) ?_; (first | omega | (simp <;> omega)); (first | omega | (simp <;> omega))) | (refine q_val rfl (fun w' hb => r_indexAddrArrL rfl rfl ?_ ?_) ?_; (first | omega | (simp <;> omega)); (first | omega | (simp <;> omega)))) | (refine gq_load ?_; (refine q_val rfl (fun w' hb => r_loadElemF (hr.mono (S.grow hb).below) rfl ?_ ?_ rfl) ?_; (first | omega | (simp <;> omega)); (first | omega | (simp <;> omega)))) | (refine gq_callV ?_; refine q_callV rfl (fun w' hb => r_call2 rfl rfl rfl) (fun w' hb => pickC_spec (by omega) (by omega) (by omega)) ?_) | (refine g_store ?_; first | (refine st_skipE rfl (r_storeVar (i := 0) S rfl rfl rfl rfl (of_decide_eq_true rfl) (of_decide_eq_true rfl)) ?_; intro w S'; replace S := S'; clear S') | (refine st_skipE rfl (r_storeVar (i := 1) S rfl rfl rfl rfl (of_decide_eq_true rfl) (of_decide_eq_true rfl)) ?_; intro w S'; replace S := S'; clear S')) | (refine WP_cond rfl (fun h => ?_) (fun h => ?_) <;> (fail_if_success (have hh : true = true := h)) <;> (fail_if_success (have hh : false = false := h)) <;> (try simp only [decide_eq_true_eq, decide_eq_false_iff_not, Bool.not_eq_true', Bool.not_eq_false', Int.not_lt, Int.not_le] at h) <;> (try (exfalso; omega))))
        all_goals
          refine ⟨⟨_, ?_, 1, _, b, ⟨rfl, rfl, rfl, rfl, rfl, trivial⟩, ?_, by omega, by omega, rfl⟩⟩
          · omega
          · simp only [wkN, ef] at S ⊢
            exact S
      · have hq : q = 1 := by omega
        subst hq
        repeat' (first | refine WP_seq ?_ | refine WP_region ?_ | refine wl_nil ?_ | refine then_normal ?_ | refine inB_normal ?_ | refine WP_skip ?_ | refine WP_block ?_ | refine WP_condT rfl ?_ | refine WP_drawTail 12 (by kernel_rfl) (by decide +kernel) ?_ | (refine ql_nil ?_; intro w hb; replace S := S.grow hb; clear hb) | (refine g_move ?_; refine st_move rfl ?_) | (refine g_assign ?_; refine st_assign rfl ?_) | (refine g_b_add ?_; (refine st_val rfl (r_addN rfl rfl ?_ ?_) ?_; (first | omega | (simp <;> omega)); (first | omega | (simp <;> omega)))) | (refine g_b_lss ?_; refine st_val rfl (r_lss rfl rfl) ?_) | (refine g_b_gtr ?_; refine st_val rfl (r_gtr rfl rfl) ?_) | (refine g_fieldAddr ?_; refine st_val rfl (r_fieldAddrL rfl) ?_) | (refine g_indexAddr ?_; first | (refine st_val rfl (r_indexAddr (hr.mono S.below) rfl rfl ?_ ?_) ?_; (first | omega | (simp <;> omega)); (first | omega | (simp <;> omega))) | (refine st_val rfl (r_indexAddrArrE rfl rfl ?_ ?_) ?_; (first | omega | (simp <;> omega)); (first | omega | (simp <;> omega))) | (refine st_val rfl (r_indexAddrArrL rfl rfl ?_ ?_) ?_; (first | omega | (simp <;> omega)); (first | omega | (simp <;> omega)))) | (refine g_load ?_; (refine st_val rfl (r_loadElemF (hr.mono S.below) rfl ?_ ?_ rfl) ?_; (first | omega | (simp <;> omega)); (first | omega | (simp <;> omega)))) | (refine g_callV ?_; (refine st_callV rfl (r_call2 rfl rfl rfl) (pickC_spec (by omega) (by omega) (by omega)) ?_; intro w hb; replace S := S.grow hb; clear hb)) | (refine gq_move ?_; refine q_move rfl ?_) | (refine gq_b_or ?_; refine q_val rfl (fun w' hb => r_or rfl rfl) ?_) | (refine gq_b_shl ?_; (refine q_val rfl (fun w' hb => r_shl rfl rfl ?_) ?_; (first | omega | (simp <;> omega)))) | (refine gq_fieldAddr ?_; refine q_val rfl (fun w' hb => r_fieldAddrL rfl) ?_) | (refine gq_indexAddr ?_; first | (refine q_val rfl (fun w' hb => r_indexAddr (hr.mono (S.grow hb).below) rfl rfl ?_ ?_) ?_; (first | omega | (simp <;> omega)); (first | omega | (simp <;> omega))) | (refine q_val rfl (fun w' hb => r_indexAddrArrE rfl rfl ?_ ?_) ?_; (first | omega | (simp <;> omega)); (first | omega | (simp <;> omega))) | (refine q_val rfl (fun w' hb => r_indexAddrArrL rfl rfl ?_ ?_) ?_; (first | omega | (simp <;> omega)); (first | omega | (simp <;> omega)))) | (refine gq_load ?_; (refine q_val rfl (fun w' hb => r_loadElemF (hr.mono (S.grow hb).below) rfl ?_ ?_ rfl) ?_; (first | omega | (simp <;> omega)); (first | omega | (simp <;> omega)))) | (refine gq_callV ?_; refine q_callV rfl (fun w' hb => r_call2 rfl rfl rfl) (fun w' hb => pickC_spec (by omega) (by omega) (by omega)) ?_) | (refine g_store ?_; first | (refine st_skipE rfl (r_storeVar (i := 0) S rfl rfl rfl rfl (of_decide_eq_true rfl) (of_decide_eq_true rfl)) ?_; intro w S'; replace S := S'; clear S') | (refine st_skipE rfl (r_storeVar (i := 1) S rfl rfl rfl rfl (of_decide_eq_true rfl) (of_decide_eq_true rfl)) ?_; intro w S'; replace S := S'; clear S')) | (refine WP_cond rfl (fun h => ?_) (fun h => ?_) <;> (fail_if_success (have hh : true = true := h)) <;> (fail_if_success (have hh : false = false := h)) <;> (try simp only [decide_eq_true_eq, decide_eq_false_iff_not, Bool.not_eq_true', Bool.not_eq_false', Int.not_lt, Int.not_le] at h) <;> (try (exfalso; omega))))
        all_goals
          refine ⟨⟨_, ?_, 2, _, b, ⟨rfl, rfl, rfl, rfl, rfl, trivial⟩, ?_, by omega, by omega, rfl⟩⟩
          · omega
          · simp only [wkN, ef] at S ⊢
            exact S
      · have hq : q = 2 := by omega
        subst hq
        repeat' (first | refine WP_seq ?_ | refine WP_region ?_ | refine wl_nil ?_ | refine then_normal ?_ | refine inB_normal ?_ | refine WP_skip ?_ | refine WP_block ?_ | refine WP_condT rfl ?_ | refine WP_drawTail 12 (by kernel_rfl) (by decide +kernel) ?_ | (refine ql_nil ?_; intro w hb; replace S := S.grow hb; clear hb) | (refine g_move ?_; refine st_move rfl ?_) | (refine g_assign ?_; refine st_assign rfl ?_) | (refine g_b_add ?_; (refine st_val rfl (r_addN rfl rfl ?_ ?_) ?_; (first | omega | (simp <;> omega)); (first | omega | (simp <;> omega)))) | (refine g_b_lss ?_; refine st_val rfl (r_lss rfl rfl) ?_) | (refine g_b_gtr ?_; refine st_val rfl (r_gtr rfl rfl) ?_) | (refine g_fieldAddr ?_; refine st_val rfl (r_fieldAddrL rfl) ?_) | (refine g_indexAddr ?_; first | (refine st_val rfl (r_indexAddr (hr.mono S.below) rfl rfl ?_ ?_) ?_; (first | omega | (simp <;> omega)); (first | omega | (simp <;> omega))) | (refine st_val rfl (r_indexAddrArrE rfl rfl ?_ ?_) ?_; (first | omega | (simp <;> omega)); (first | omega | (simp <;> omega))) | (refine st_val rfl (r_indexAddrArrL rfl rfl ?_ ?_) ?_; (first | omega | (simp <;> omega)); (first | omega | (simp <;> omega)))) | (refine g_load ?_; (refine st_val rfl (r_loadElemF (hr.mono S.below) rfl ?_ ?_ rfl) ?_; (first | omega | (simp <;> omega)); (first | omega | (simp <;> omega)))) | (refine g_callV ?_; (refine st_callV rfl (r_call2 rfl rfl rfl) (pickC_spec (by omega) (by omega) (by omega)) ?_; intro w hb; replace S := S.grow hb; clear hb)) | (refine gq_move ?_; refine q_move rfl ?_) | (refine gq_b_or ?_; refine q_val rfl (fun w' hb => r_or rfl rfl) ?_) | (refine gq_b_shl ?_; (refine q_val rfl (fun w' hb => r_shl rfl rfl ?_) ?_; (first | omega | (simp <;> omega)))) | (refine gq_fieldAddr ?_; refine q_val rfl (fun w' hb => r_fieldAddrL rfl) ?_) | (refine gq_indexAddr ?_; first | (refine q_val rfl (fun w' hb => r_indexAddr (hr.mono (S.grow hb).below) rfl rfl ?_ ?_) ?_; (first | omega | (simp <;> omega)); (first | omega | (simp <;> omega))) | (refine q_val rfl (fun w' hb => r_indexAddrArrE rfl rfl ?_ ?_) ?_; (first | omega | (simp <;> omega)); (first | omega | (simp <;> omega))) | (refine q_val rfl (fun w' hb => r_indexAddrArrL rfl rfl ?_ ?_) ?_; (first | omega | (simp <;> omega)); (first | omega | (simp <;> omega)))) | (refine gq_load ?_; (refine q_val rfl (fun w' hb => r_loadElemF (hr.mono (S.grow hb).below) rfl ?_ ?_ rfl) ?_; (first | omega | (simp <;> omega)); (first | omega | (simp <;> omega)))) | (refine gq_callV ?_; refine q_callV rfl (fun w' hb => r_call2 rfl rfl rfl) (fun w' hb => pickC_spec (by omega) (by omega) (by omega)) ?_) | (refine g_store ?_; first | (refine st_skipE rfl (r_storeVar (i := 0) S rfl rfl rfl rfl (of_decide_eq_true rfl) (of_decide_eq_true rfl)) ?_; intro w S'; replace S := S'; clear S') | (refine st_skipE rfl (r_storeVar (i := 1) S rfl rfl rfl rfl (of_decide_eq_true rfl) (of_decide_eq_true rfl)) ?_; intro w S'; replace S := S'; clear S')) | (refine WP_cond rfl (fun h => ?_) (fun h => ?_) <;> (fail_if_success (have hh : true = true := h)) <;> (fail_if_success (have hh : false = false := h)) <;> (try simp only [decide_eq_true_eq, decide_eq_false_iff_not, Bool.not_eq_true', Bool.not_eq_false', Int.not_lt, Int.not_le] at h) <;> (try (exfalso; omega))))
        all_goals
          refine ⟨⟨_, ?_, 3, _, b, ⟨rfl, rfl, rfl, rfl, rfl, trivial⟩, ?_, by omega, by omega, rfl⟩⟩
          · omega
          · simp only [wkN, ef] at S ⊢
            exact S
      · have hq : q = 3 := by omega
        subst hq
        repeat' (first | refine WP_seq ?_ | refine WP_region ?_ | refine wl_nil ?_ | refine then_normal ?_ | refine inB_normal ?_ | refine WP_skip ?_ | refine WP_block ?_ | refine WP_condT rfl ?_ | refine WP_drawTail 12 (by kernel_rfl) (by decide +kernel) ?_ | (refine ql_nil ?_; intro w hb; replace S := S.grow hb; clear hb) | (refine g_move ?_; refine st_move rfl ?_) | (refine g_assign ?_; refine st_assign rfl ?_) | (refine g_b_add ?_; (refine st_val rfl (r_addN rfl rfl ?_ ?_) ?_; (first | omega | (simp <;> omega)); (first | omega | (simp <;> omega)))) | (refine g_b_lss ?_; refine st_val rfl (r_lss rfl rfl) ?_) | (refine g_b_gtr ?_; refine st_val rfl (r_gtr rfl rfl) ?_) | (refine g_fieldAddr ?_; refine st_val rfl (r_fieldAddrL rfl) ?_) | (refine g_indexAddr ?_; first | (refine st_val rfl (r_indexAddr (hr.mono S.below) rfl rfl ?_ ?_) ?_; (first | omega | (simp <;> omega)); (first | omega | (simp <;> omega))) | (refine st_val rfl (r_indexAddrArrE rfl rfl ?_ ?_) ?_; (first | omega | (simp <;> omega)); (first | omega | (simp <;> omega))) | (refine st_val rfl (r_indexAddrArrL rfl rfl ?_ ?_) ?_; (first | omega | (simp <;> omega)); (first | omega | (simp <;> omega)))) | (refine g_load ?_; (refine st_val rfl (r_loadElemF (hr.mono S.below) rfl ?_ ?_ rfl) ?_; (first | omega | (simp <;> omega)); (first | omega | (simp <;> omega)))) | (refine g_callV ?_; (refine st_callV rfl (r_call2 rfl rfl rfl) (pickC_spec (by omega) (by omega) (by omega)) ?_; intro w hb; replace S := S.grow hb; clear hb)) | (refine gq_move ?_; refine q_move rfl ?_) | (refine gq_b_or ?_; refine q_val rfl (fun w' hb => r_or rfl rfl) ?_) | (refine gq_b_shl ?_; (refine q_val rfl (fun w' hb => r_shl rfl rfl ?_) ?_; (first | omega | (simp <;> omega)))) | (refine gq_fieldAddr ?_; refine q_val rfl (fun w' hb => r_fieldAddrL rfl) ?_) | (refine gq_indexAddr ?_; first | (refine q_val rfl (fun w' hb => r_indexAddr (hr.mono (S.grow hb).below) rfl rfl ?_ ?_) ?_; (first | omega | (simp <;> omega)); (first | omega | (simp <;> omega))) | (refine q_val rfl (fun w' hb => r_indexAddrArrE rfl rfl ?_ ?_) ?_; (first | omega | (simp <;> omega)); (first | omega | (simp <;> omega))) | (refine q_val rfl (fun w' hb => r_indexAddrArrL rfl rfl ?_ ?_) ?_; (first | omega | (simp <;> omega)); (first | omega | (simp <;> omega)))) | (refine gq_load ?_; (refine q_val rfl (fun w' hb => r_loadElemF (hr.mono (S.grow hb).below) rfl ?_ ?_ rfl) ?_; (first | omega | (simp <;> omega)); (first | omega | (simp <;> omega)))) | (refine gq_callV ?_; refine q_callV rfl (fun w' hb => r_call2 rfl rfl rfl) (fun w' hb => pickC_spec (by omega) (by omega) (by omega)) ?_) | (refine g_store ?_; first | (refine st_skipE rfl (r_storeVar (i := 0) S rfl rfl rfl rfl (of_decide_eq_true rfl) (of_decide_eq_true rfl)) ?_; intro w S'; replace S := S'; clear S') | (refine st_skipE rfl (r_storeVar (i := 1) S rfl rfl rfl rfl (of_decide_eq_true rfl) (of_decide_eq_true rfl)) ?_; intro w S'; replace S := S'; clear S')) | (refine WP_cond rfl (fun h => ?_) (fun h => ?_) <;> (fail_if_success (have hh : true = true := h)) <;> (fail_if_success (have hh : false = false := h)) <;> (try simp only [decide_eq_true_eq, decide_eq_false_iff_not, Bool.not_eq_true', Bool.not_eq_false', Int.not_lt, Int.not_le] at h) <;> (try (exfalso; omega))))
        all_goals
          refine ⟨⟨_, ?_, 4, _, b, ⟨rfl, rfl, rfl, rfl, rfl, trivial⟩, ?_, by omega, by omega, rfl⟩⟩
          · omega
          · simp only [wkN, ef] at S ⊢
            exact S
      · have hq : q = 4 := by omega
        subst hq
        repeat' (first | refine WP_seq ?_ | refine WP_region ?_ | refine wl_nil ?_ | refine then_normal ?_ | refine inB_normal ?_ | refine WP_skip ?_ | refine WP_block ?_ | refine WP_condT rfl ?_ | refine WP_drawTail 12 (by kernel_rfl) (by decide +kernel) ?_ | (refine ql_nil ?_; intro w hb; replace S := S.grow hb; clear hb) | (refine g_move ?_; refine st_move rfl ?_) | (refine g_assign ?_; refine st_assign rfl ?_) | (refine g_b_add ?_; (refine st_val rfl (r_addN rfl rfl ?_ ?_) ?_; (first | omega | (simp <;> omega)); (first | omega | (simp <;> omega)))) | (refine g_b_lss ?_; refine st_val rfl (r_lss rfl rfl) ?_) | (refine g_b_gtr ?_; refine st_val rfl (r_gtr rfl rfl) ?_) | (refine g_fieldAddr ?_; refine st_val rfl (r_fieldAddrL rfl) ?_) | (refine g_indexAddr ?_; first | (refine st_val rfl (r_indexAddr (hr.mono S.below) rfl rfl ?_ ?_) ?_; (first | omega | (simp <;> omega)); (first | omega | (simp <;> omega))) | (refine st_val rfl (r_indexAddrArrE rfl rfl ?_ ?_) ?_; (first | omega | (simp <;> omega)); (first | omega | (simp <;> omega))) | (refine st_val rfl (r_indexAddrArrL rfl rfl ?_ ?_) ?_; (first | omega | (simp <;> omega)); (first | omega | (simp <;> omega)))) | (refine g_load ?_; (refine st_val rfl (r_loadElemF (hr.mono S.below) rfl ?_ ?_ rfl) ?_; (first | omega | (simp <;> omega)); (first | omega | (simp <;> omega)))) | (refine g_callV ?_; (refine st_callV rfl (r_call2 rfl rfl rfl) (pickC_spec (by omega) (by omega) (by omega)) ?_; intro w hb; replace S := S.grow hb; clear hb)) | (refine gq_move ?_; refine q_move rfl ?_) | (refine gq_b_or ?_; refine q_val rfl (fun w' hb => r_or rfl rfl) ?_) | (refine gq_b_shl ?_; (refine q_val rfl (fun w' hb => r_shl rfl rfl ?_) ?_; (first | omega | (simp <;> omega)))) | (refine gq_fieldAddr ?_; refine q_val rfl (fun w' hb => r_fieldAddrL rfl) ?_) | (refine gq_indexAddr ?_; first | (refine q_val rfl (fun w' hb => r_indexAddr (hr.mono (S.grow hb).below) rfl rfl ?_ ?_) ?_; (first | omega | (simp <;> omega)); (first | omega | (simp <;> omega))) | (refine q_val rfl (fun w' hb => r_indexAddrArrE rfl rfl ?_ ?_) ?_; (first | omega | (simp <;> omega)); (first | omega | (simp <;> omega))) | (refine q_val rfl (fun w' hb => r_indexAddrArrL rfl rfl ?_ ?_) ?_; (first | omega | (simp <;> omega)); (first | omega | (simp <;> omega)))) | (refine gq_load ?_; (refine q_val rfl (fun w' hb => r_loadElemF (hr.mono (S.grow hb).below) rfl ?_ ?_ rfl) ?_; (first | omega | (simp <;> omega)); (first | omega | (simp <;> omega)))) | (refine gq_callV ?_; refine q_callV rfl (fun w' hb => r_call2 rfl rfl rfl) (fun w' hb => pickC_spec (by omega) (by omega) (by omega)) ?_) | (refine g_store ?_; first | (refine st_skipE rfl (r_storeVar (i := 0) S rfl rfl rfl rfl (of_decide_eq_true rfl) (of_decide_eq_true rfl)) ?_; intro w S'; replace S := S'; clear S') | (refine st_skipE rfl (r_storeVar (i := 1) S rfl rfl rfl rfl (of_decide_eq_true rfl) (of_decide_eq_true rfl)) ?_; intro w S'; replace S := S'; clear S')) | (refine WP_cond rfl (fun h => ?_) (fun h => ?_) <;> (fail_if_success (have hh : true = true := h)) <;> (fail_if_success (have hh : false = false := h)) <;> (try simp only [decide_eq_true_eq, decide_eq_false_iff_not, Bool.not_eq_true', Bool.not_eq_false', Int.not_lt, Int.not_le] at h) <;> (try (exfalso; omega))))
        all_goals
          refine ⟨⟨_, ?_, 5, _, b, ⟨rfl, rfl, rfl, rfl, rfl, trivial⟩, ?_, by omega, by omega, rfl⟩⟩
          · omega
          · simp only [wkN, ef] at S ⊢
            exact S
      · have hq : q = 5 := by omega
        subst hq
        repeat' (first | refine WP_seq ?_ | refine WP_region ?_ | refine wl_nil ?_ | refine then_normal ?_ | refine inB_normal ?_ | refine WP_skip ?_ | refine WP_block ?_ | refine WP_condT rfl ?_ | refine WP_drawTail 12 (by kernel_rfl) (by decide +kernel) ?_ | (refine ql_nil ?_; intro w hb; replace S := S.grow hb; clear hb) | (refine g_move ?_; refine st_move rfl ?_) | (refine g_assign ?_; refine st_assign rfl ?_) | (refine g_b_add ?_; (refine st_val rfl (r_addN rfl rfl ?_ ?_) ?_; (first | omega | (simp <;> omega)); (first | omega | (simp <;> omega)))) | (refine g_b_lss ?_; refine st_val rfl (r_lss rfl rfl) ?_) | (refine g_b_gtr ?_; refine st_val rfl (r_gtr rfl rfl) ?_) | (refine g_fieldAddr ?_; refine st_val rfl (r_fieldAddrL rfl) ?_) | (refine g_indexAddr ?_; first | (refine st_val rfl (r_indexAddr (hr.mono S.below) rfl rfl ?_ ?_) ?_; (first | omega | (simp <;> omega)); (first | omega | (simp <;> omega))) | (refine st_val rfl (r_indexAddrArrE rfl rfl ?_ ?_) ?_; (first | omega | (simp <;> omega)); (first | omega | (simp <;> omega))) | (refine st_val rfl (r_indexAddrArrL rfl rfl ?_ ?_) ?_; (first | omega | (simp <;> omega)); (first | omega | (simp <;> omega)))) | (refine g_load ?_; (refine st_val rfl (r_loadElemF (hr.mono S.below) rfl ?_ ?_ rfl) ?_; (first | omega | (simp <;> omega)); (first | omega | (simp <;> omega)))) | (refine g_callV ?_; (refine st_callV rfl (r_call2 rfl rfl rfl) (pickC_spec (by omega) (by omega) (by omega)) ?_; intro w hb; replace S := S.grow hb; clear hb)) | (refine gq_move ?_; refine q_move rfl ?_) | (refine gq_b_or ?_; refine q_val rfl (fun w' hb => r_or rfl rfl) ?_) | (refine gq_b_shl ?_; (refine q_val rfl (fun w' hb => r_shl rfl rfl ?_) ?_; (first | omega | (simp <;> omega)))) | (refine gq_fieldAddr ?_; refine q_val rfl (fun w' hb => r_fieldAddrL rfl) ?_) | (refine gq_indexAddr ?_; first | (refine q_val rfl (fun w' hb => r_indexAddr (hr.mono (S.grow hb).below) rfl rfl ?_ ?_) ?_; (first | omega | (simp <;> omega)); (first | omega | (simp <;> omega))) | (refine q_val rfl (fun w' hb => r_indexAddrArrE rfl rfl ?_ ?_) ?_; (first | omega | (simp <;> omega)); (first | omega | (simp <;> omega))) | (refine q_val rfl (fun w' hb => r_indexAddrArrL rfl rfl ?_ ?_) ?_; (first | omega | (simp <;> omega)); (first | omega | (simp <;> omega)))) | (refine gq_load ?_; (refine q_val rfl (fun w' hb => r_loadElemF (hr.mono (S.grow hb).below) rfl ?_ ?_ rfl) ?_; (first | omega | (simp <;> omega)); (first | omega | (simp <;> omega)))) | (refine gq_callV ?_; refine q_callV rfl (fun w' hb => r_call2 rfl rfl rfl) (fun w' hb => pickC_spec (by omega) (by omega) (by omega)) ?_) | (refine g_store ?_; first | (refine st_skipE rfl (r_storeVar (i := 0) S rfl rfl rfl rfl (of_decide_eq_true rfl) (of_decide_eq_true rfl)) ?_; intro w S'; replace S := S'; clear S') | (refine st_skipE rfl (r_storeVar (i := 1) S rfl rfl rfl rfl (of_decide_eq_true rfl) (of_decide_eq_true rfl)) ?_; intro w S'; replace S := S'; clear S')) | (refine WP_cond rfl (fun h => ?_) (fun h => ?_) <;> (fail_if_success (have hh : true = true := h)) <;> (fail_if_success (have hh : false = false := h)) <;> (try simp only [decide_eq_true_eq, decide_eq_false_iff_not, Bool.not_eq_true', Bool.not_eq_false', Int.not_lt, Int.not_le] at h) <;> (try (exfalso; omega))))
        all_goals
          refine ⟨⟨_, ?_, 6, _, b, ⟨rfl, rfl, rfl, rfl, rfl, trivial⟩, ?_, by omega, by omega, rfl⟩⟩
          · omega
          · simp only [wkN, ef] at S ⊢
            exact S
      · have hq : q = 6 := by omega
        subst hq
        repeat' (first | refine WP_seq ?_ | refine WP_region ?_ | refine wl_nil ?_ | refine then_normal ?_ | refine inB_normal ?_ | refine WP_skip ?_ | refine WP_block ?_ | refine WP_condT rfl ?_ | refine WP_drawTail 12 (by kernel_rfl) (by decide +kernel) ?_ | (refine ql_nil ?_; intro w hb; replace S := S.grow hb; clear hb) | (refine g_move ?_; refine st_move rfl ?_) | (refine g_assign ?_; refine st_assign rfl ?_) | (refine g_b_add ?_; (refine st_val rfl (r_addN rfl rfl ?_ ?_) ?_; (first | omega | (simp <;> omega)); (first | omega | (simp <;> omega)))) | (refine g_b_lss ?_; refine st_val rfl (r_lss rfl rfl) ?_) | (refine g_b_gtr ?_; refine st_val rfl (r_gtr rfl rfl) ?_) | (refine g_fieldAddr ?_; refine st_val rfl (r_fieldAddrL rfl) ?_) | (refine g_indexAddr ?_; first | (refine st_val rfl (r_indexAddr (hr.mono S.below) rfl rfl ?_ ?_) ?_; (first | omega | (simp <;> omega)); (first | omega | (simp <;> omega))) | (refine st_val rfl (r_indexAddrArrE rfl rfl ?_ ?_) ?_; (first | omega | (simp <;> omega)); (first | omega | (simp <;> omega))) | (refine st_val rfl (r_indexAddrArrL rfl rfl ?_ ?_) ?_; (first | omega | (simp <;> omega)); (first | omega | (simp <;> omega)))) | (refine g_load ?_; (refine st_val rfl (r_loadElemF (hr.mono S.below) rfl ?_ ?_ rfl) ?_; (first | omega | (simp <;> omega)); (first | omega | (simp <;> omega)))) | (refine g_callV ?_; (refine st_callV rfl (r_call2 rfl rfl rfl) (pickC_spec (by omega) (by omega) (by omega)) ?_; intro w hb; replace S := S.grow hb; clear hb)) | (refine gq_move ?_; refine q_move rfl ?_) | (refine gq_b_or ?_; refine q_val rfl (fun w' hb => r_or rfl rfl) ?_) | (refine gq_b_shl ?_; (refine q_val rfl (fun w' hb => r_shl rfl rfl ?_) ?_; (first | omega | (simp <;> omega)))) | (refine gq_fieldAddr ?_; refine q_val rfl (fun w' hb => r_fieldAddrL rfl) ?_) | (refine gq_indexAddr ?_; first | (refine q_val rfl (fun w' hb => r_indexAddr (hr.mono (S.grow hb).below) rfl rfl ?_ ?_) ?_; (first | omega | (simp <;> omega)); (first | omega | (simp <;> omega))) | (refine q_val rfl (fun w' hb => r_indexAddrArrE rfl rfl ?_ ?_) ?_; (first | omega | (simp <;> omega)); (first | omega | (simp <;> omega))) | (refine q_val rfl (fun w' hb => r_indexAddrArrL rfl rfl ?_ ?_) ?_; (first | omega | (simp <;> omega)); (first | omega | (simp <;> omega)))) | (refine gq_load ?_; (refine q_val rfl (fun w' hb => r_loadElemF (hr.mono (S.grow hb).below) rfl ?_ ?_ rfl) ?_; (first | omega | (simp <;> omega)); (first | omega | (simp <;> omega)))) | (refine gq_callV ?_; refine q_callV rfl (fun w' hb => r_call2 rfl rfl rfl) (fun w' hb => pickC_spec (by omega) (by omega) (by omega)) ?_) | (refine g_store ?_; first | (refine st_skipE rfl (r_storeVar (i := 0) S rfl rfl rfl rfl (of_decide_eq_true rfl) (of_decide_eq_true rfl)) ?_; intro w S'; replace S := S'; clear S') | (refine st_skipE rfl (r_storeVar (i := 1) S rfl rfl rfl rfl (of_decide_eq_true rfl) (of_decide_eq_true rfl)) ?_; intro w S'; replace S := S'; clear S')) | (refine WP_cond rfl (fun h => ?_) (fun h => ?_) <;> (fail_if_success (have hh : true = true := h)) <;> (fail_if_success (have hh : false = false := h)) <;> (try simp only [decide_eq_true_eq, decide_eq_false_iff_not, Bool.not_eq_true', Bool.not_eq_false', Int.not_lt, Int.not_le] at h) <;> (try (exfalso; omega))))
        all_goals
          refine ⟨⟨_, ?_, 7, _, b, ⟨rfl, rfl, rfl, rfl, rfl, trivial⟩, ?_, by omega, by omega, rfl⟩⟩
          · omega
          · simp only [wkN, ef] at S ⊢
            exact S
    · have ef : ∀ d : Nat, wkF (nth xs p) d = 16777215 := fun d => if_neg h6
      rcases hdc with rfl | rfl | rfl | rfl | rfl | rfl | rfl
      · have hq : q = 0 := by omega
        subst hq
        repeat' (first | refine WP_seq ?_ | refine WP_region ?_ | refine wl_nil ?_ | refine then_normal ?_ | refine inB_normal ?_ | refine WP_skip ?_ | refine WP_block ?_ | refine WP_condT rfl ?_ | (refine g_move ?_; refine st_move rfl ?_) | (refine g_assign ?_; refine st_assign rfl ?_) | (refine g_b_add ?_; (refine st_val rfl (r_addN rfl rfl ?_ ?_) ?_; (first | omega | (simp <;> omega)); (first | omega | (simp <;> omega)))) | (refine g_b_lss ?_; refine st_val rfl (r_lss rfl rfl) ?_) | (refine g_b_gtr ?_; refine st_val rfl (r_gtr rfl rfl) ?_) | (refine g_fieldAddr ?_; refine st_val rfl (r_fieldAddrL rfl) ?_) | (refine g_indexAddr ?_; first | (refine st_val rfl (r_indexAddr (hr.mono S.below) rfl rfl ?_ ?_) ?_; (first | omega | (simp <;> omega)); (first | omega | (simp <;> omega))) | (refine st_val rfl (r_indexAddrArrE rfl rfl ?_ ?_) ?_; (first | omega | (simp <;> omega)); (first | omega | (simp <;> omega))) | (refine st_val rfl (r_indexAddrArrL rfl rfl ?_ ?_) ?_; (first | omega | (simp <;> omega)); (first | omega | (simp <;> omega)))) | (refine g_load ?_; (refine st_val rfl (r_loadElemF (hr.mono S.below) rfl ?_ ?_ rfl) ?_; (first | omega | (simp <;> omega)); (first | omega | (simp <;> omega)))) | (refine g_callV ?_; (refine st_callV rfl (r_call2 rfl rfl rfl) (pickC_spec (by omega) (by omega) (by omega)) ?_; intro w hb; replace S := S.grow hb; clear hb)) | (refine g_store ?_; first | (refine st_skipE rfl (r_storeVar (i := 0) S rfl rfl rfl rfl (of_decide_eq_true rfl) (of_decide_eq_true rfl)) ?_; intro w S'; replace S := S'; clear S') | (refine st_skipE rfl (r_storeVar (i := 1) S rfl rfl rfl rfl (of_decide_eq_true rfl) (of_decide_eq_true rfl)) ?_; intro w S'; replace S := S'; clear S')) | (refine WP_cond rfl (fun h => ?_) (fun h => ?_) <;> (fail_if_success (have hh : true = true := h)) <;> (fail_if_success (have hh : false = false := h)) <;> (try simp only [decide_eq_true_eq, decide_eq_false_iff_not, Bool.not_eq_true', Bool.not_eq_false', Int.not_lt, Int.not_le] at h) <;> (try (exfalso; omega))))
        all_goals
          refine ⟨⟨_, ?_, 1, _, b, ⟨rfl, rfl, rfl, rfl, rfl, trivial⟩, ?_, by omega, by omega, rfl⟩⟩
          · omega
          · simp only [wkN, ef] at S ⊢
            exact S
      · have hq : q = 1 := by omega
        subst hq
        repeat' (first | refine WP_seq ?_ | refine WP_region ?_ | refine wl_nil ?_ | refine then_normal ?_ | refine inB_normal ?_ | refine WP_skip ?_ | refine WP_block ?_ | refine WP_condT rfl ?_ | (refine g_move ?_; refine st_move rfl ?_) | (refine g_assign ?_; refine st_assign rfl ?_) | (refine g_b_add ?_; (refine st_val rfl (r_addN rfl rfl ?_ ?_) ?_; (first | omega | (simp <;> omega)); (first | omega | (simp <;> omega)))) | (refine g_b_lss ?_; refine st_val rfl (r_lss rfl rfl) ?_) | (refine g_b_gtr ?_; refine st_val rfl (r_gtr rfl rfl) ?_) | (refine g_fieldAddr ?_; refine st_val rfl (r_fieldAddrL rfl) ?_) | (refine g_indexAddr ?_; first | (refine st_val rfl (r_indexAddr (hr.mono S.below) rfl rfl ?_ ?_) ?_; (first | omega | (simp <;> omega)); (first | omega | (simp <;> omega))) | (refine st_val rfl (r_indexAddrArrE rfl rfl ?_ ?_) ?_; (first | omega | (simp <;> omega)); (first | omega | (simp <;> omega))) | (refine st_val rfl (r_indexAddrArrL rfl rfl ?_ ?_) ?_; (first | omega | (simp <;> omega)); (first | omega | (simp <;> omega)))) | (refine g_load ?_; (refine st_val rfl (r_loadElemF (hr.mono S.below) rfl ?_ ?_ rfl) ?_; (first | omega | (simp <;> omega)); (first | omega | (simp <;> omega)))) | (refine g_callV ?_; (refine st_callV rfl (r_call2 rfl rfl rfl) (pickC_spec (by omega) (by omega) (by omega)) ?_; intro w hb; replace S := S.grow hb; clear hb)) | (refine g_store ?_; first | (refine st_skipE rfl (r_storeVar (i := 0) S rfl rfl rfl rfl (of_decide_eq_true rfl) (of_decide_eq_true rfl)) ?_; intro w S'; replace S := S'; clear S') | (refine st_skipE rfl (r_storeVar (i := 1) S rfl rfl rfl rfl (of_decide_eq_true rfl) (of_decide_eq_true rfl)) ?_; intro w S'; replace S := S'; clear S')) | (refine WP_cond rfl (fun h => ?_) (fun h => ?_) <;> (fail_if_success (have hh : true = true := h)) <;> (fail_if_success (have hh : false = false := h)) <;> (try simp only [decide_eq_true_eq, decide_eq_false_iff_not, Bool.not_eq_true', Bool.not_eq_false', Int.not_lt, Int.not_le] at h) <;> (try (exfalso; omega))))
        all_goals
          refine ⟨⟨_, ?_, 2, _, b, ⟨rfl, rfl, rfl, rfl, rfl, trivial⟩, ?_, by omega, by omega, rfl⟩⟩
          · omega
          · simp only [wkN, ef] at S ⊢
            exact S
      · have hq : q = 2 := by omega
        subst hq
        repeat' (first | refine WP_seq ?_ | refine WP_region ?_ | refine wl_nil ?_ | refine then_normal ?_ | refine inB_normal ?_ | refine WP_skip ?_ | refine WP_block ?_ | refine WP_condT rfl ?_ | (refine g_move ?_; refine st_move rfl ?_) | (refine g_assign ?_; refine st_assign rfl ?_) | (refine g_b_add ?_; (refine st_val rfl (r_addN rfl rfl ?_ ?_) ?_; (first | omega | (simp <;> omega)); (first | omega | (simp <;> omega)))) | (refine g_b_lss ?_; refine st_val rfl (r_lss rfl rfl) ?_) | (refine g_b_gtr ?_; refine st_val rfl (r_gtr rfl rfl) ?_) | (refine g_fieldAddr ?_; refine st_val rfl (r_fieldAddrL rfl) ?_) | (refine g_indexAddr ?_; first | (refine st_val rfl (r_indexAddr (hr.mono S.below) rfl rfl ?_ ?_) ?_; (first | omega | (simp <;> omega)); (first | omega | (simp <;> omega))) | (refine st_val rfl (r_indexAddrArrE rfl rfl ?_ ?_) ?_; (first | omega | (simp <;> omega)); (first | omega | (simp <;> omega))) | (refine st_val rfl (r_indexAddrArrL rfl rfl ?_ ?_) ?_; (first | omega | (simp <;> omega)); (first | omega | (simp <;> omega)))) | (refine g_load ?_; (refine st_val rfl (r_loadElemF (hr.mono S.below) rfl ?_ ?_ rfl) ?_; (first | omega | (simp <;> omega)); (first | omega | (simp <;> omega)))) | (refine g_callV ?_; (refine st_callV rfl (r_call2 rfl rfl rfl) (pickC_spec (by omega) (by omega) (by omega)) ?_; intro w hb; replace S := S.grow hb; clear hb)) | (refine g_store ?_; first | (refine st_skipE rfl (r_storeVar (i := 0) S rfl rfl rfl rfl (of_decide_eq_true rfl) (of_decide_eq_true rfl)) ?_; intro w S'; replace S := S'; clear S') | (refine st_skipE rfl (r_storeVar (i := 1) S rfl rfl rfl rfl (of_decide_eq_true rfl) (of_decide_eq_true rfl)) ?_; intro w S'; replace S := S'; clear S')) | (refine WP_cond rfl (fun h => ?_) (fun h => ?_) <;> (fail_if_success (have hh : true = true := h)) <;> (fail_if_success (have hh : false = false := h)) <;> (try simp only [decide_eq_true_eq, decide_eq_false_iff_not, Bool.not_eq_true', Bool.not_eq_false', Int.not_lt, Int.not_le] at h) <;> (try (exfalso; omega))))
        all_goals
          refine ⟨⟨_, ?_, 3, _, b, ⟨rfl, rfl, rfl, rfl, rfl, trivial⟩, ?_, by omega, by omega, rfl⟩⟩
          · omega
          · simp only [wkN, ef] at S ⊢
            exact S
      · have hq : q = 3 := by omega
        subst hq
        repeat' (first | refine WP_seq ?_ | refine WP_region ?_ | refine wl_nil ?_ | refine then_normal ?_ | refine inB_normal ?_ | refine WP_skip ?_ | refine WP_block ?_ | refine WP_condT rfl ?_ | (refine g_move ?_; refine st_move rfl ?_) | (refine g_assign ?_; refine st_assign rfl ?_) | (refine g_b_add ?_; (refine st_val rfl (r_addN rfl rfl ?_ ?_) ?_; (first | omega | (simp <;> omega)); (first | omega | (simp <;> omega)))) | (refine g_b_lss ?_; refine st_val rfl (r_lss rfl rfl) ?_) | (refine g_b_gtr ?_; refine st_val rfl (r_gtr rfl rfl) ?_) | (refine g_fieldAddr ?_; refine st_val rfl (r_fieldAddrL rfl) ?_) | (refine g_indexAddr ?_; first | (refine st_val rfl (r_indexAddr (hr.mono S.below) rfl rfl ?_ ?_) ?_; (first | omega | (simp <;> omega)); (first | omega | (simp <;> omega))) | (refine st_val rfl (r_indexAddrArrE rfl rfl ?_ ?_) ?_; (first | omega | (simp <;> omega)); (first | omega | (simp <;> omega))) | (refine st_val rfl (r_indexAddrArrL rfl rfl ?_ ?_) ?_; (first | omega | (simp <;> omega)); (first | omega | (simp <;> omega)))) | (refine g_load ?_; (refine st_val rfl (r_loadElemF (hr.mono S.below) rfl ?_ ?_ rfl) ?_; (first | omega | (simp <;> omega)); (first | omega | (simp <;> omega)))) | (refine g_callV ?_; (refine st_callV rfl (r_call2 rfl rfl rfl) (pickC_spec (by omega) (by omega) (by omega)) ?_; intro w hb; replace S := S.grow hb; clear hb)) | (refine g_store ?_; first | (refine st_skipE rfl (r_storeVar (i := 0) S rfl rfl rfl rfl (of_decide_eq_true rfl) (of_decide_eq_true rfl)) ?_; intro w S'; replace S := S'; clear S') | (refine st_skipE rfl (r_storeVar (i := 1) S rfl rfl rfl rfl (of_decide_eq_true rfl) (of_decide_eq_true rfl)) ?_; intro w S'; replace S := S'; clear S')) | (refine WP_cond rfl (fun h => ?_) (fun h => ?_) <;> (fail_if_success (have hh : true = true := h)) <;> (fail_if_success (have hh : false = false := h)) <;> (try simp only [decide_eq_true_eq, decide_eq_false_iff_not, Bool.not_eq_true', Bool.not_eq_false', Int.not_lt, Int.not_le] at h) <;> (try (exfalso; omega))))
        all_goals
          refine ⟨⟨_, ?_, 4, _, b, ⟨rfl, rfl, rfl, rfl, rfl, trivial⟩, ?_, by omega, by omega, rfl⟩⟩
          · omega
          · simp only [wkN, ef] at S ⊢
            exact S
      · have hq : q = 4 := by omega
        subst hq
        repeat' (first | refine WP_seq ?_ | refine WP_region ?_ | refine wl_nil ?_ | refine then_normal ?_ | refine inB_normal ?_ | refine WP_skip ?_ | refine WP_block ?_ | refine WP_condT rfl ?_ | (refine g_move ?_; refine st_move rfl ?_) | (refine g_assign ?_; refine st_assign rfl ?_) | (refine g_b_add ?_; (refine st_val rfl (r_addN rfl rfl ?_ ?_) ?_; (first | omega | (simp <;> omega)); (first | omega | (simp <;> omega)))) | (refine g_b_lss ?_; refine st_val rfl (r_lss rfl rfl) ?_) | (refine g_b_gtr ?_; refine st_val rfl (r_gtr rfl rfl) ?_) | (refine g_fieldAddr ?_; refine st_val rfl (r_fieldAddrL rfl) ?_) | (refine g_indexAddr ?_; first | (refine st_val rfl (r_indexAddr (hr.mono S.below) rfl rfl ?_ ?_) ?_; (first | omega | (simp <;> omega)); (first | omega | (simp <;> omega))) | (refine st_val rfl (r_indexAddrArrE rfl rfl ?_ ?_) ?_; (first | omega | (simp <;> omega)); (first | omega | (simp <;> omega))) | (refine st_val rfl (r_indexAddrArrL rfl rfl ?_ ?_) ?_; (first | omega | (simp <;> omega)); (first | omega | (simp <;> omega)))) | (refine g_load ?_; (refine st_val rfl (r_loadElemF (hr.mono S.below) rfl ?_ ?_ rfl) ?_; (first | omega | (simp <;> omega)); (first | omega | (simp <;> omega)))) | (refine g_callV ?_; (refine st_callV rfl (r_call2 rfl rfl rfl) (pickC_spec (by omega) (by omega) (by omega)) ?_; intro w hb; replace S := S.grow hb; clear hb)) | (refine g_store ?_; first | (refine st_skipE rfl (r_storeVar (i := 0) S rfl rfl rfl rfl (of_decide_eq_true rfl) (of_decide_eq_true rfl)) ?_; intro w S'; replace S := S'; clear S') | (refine st_skipE rfl (r_storeVar (i := 1) S rfl rfl rfl rfl (of_decide_eq_true rfl) (of_decide_eq_true rfl)) ?_; intro w S'; replace S := S'; clear S')) | (refine WP_cond rfl (fun h => ?_) (fun h => ?_) <;> (fail_if_success (have hh : true = true := h)) <;> (fail_if_success (have hh : false = false := h)) <;> (try simp only [decide_eq_true_eq, decide_eq_false_iff_not, Bool.not_eq_true', Bool.not_eq_false', Int.not_lt, Int.not_le] at h) <;> (try (exfalso; omega))))
        all_goals
          refine ⟨⟨_, ?_, 5, _, b, ⟨rfl, rfl, rfl, rfl, rfl, trivial⟩, ?_, by omega, by omega, rfl⟩⟩
          · omega
          · simp only [wkN, ef] at S ⊢
            exact S
      · have hq : q = 5 := by omega
        subst hq
        repeat' (first | refine WP_seq ?_ | refine WP_region ?_ | refine wl_nil ?_ | refine then_normal ?_ | refine inB_normal ?_ | refine WP_skip ?_ | refine WP_block ?_ | refine WP_condT rfl ?_ | (refine g_move ?_; refine st_move rfl ?_) | (refine g_assign ?_; refine st_assign rfl ?_) | (refine g_b_add ?_; (refine st_val rfl (r_addN rfl rfl ?_ ?_) ?_; (first | omega | (simp <;> omega)); (first | omega | (simp <;> omega)))) | (refine g_b_lss ?_; refine st_val rfl (r_lss rfl rfl) ?_) | (refine g_b_gtr ?_; refine st_val rfl (r_gtr rfl rfl) ?_) | (refine g_fieldAddr ?_; refine st_val rfl (r_fieldAddrL rfl) ?_) | (refine g_indexAddr ?_; first | (refine st_val rfl (r_indexAddr (hr.mono S.below) rfl rfl ?_ ?_) ?_; (first | omega | (simp <;> omega)); (first | omega | (simp <;> omega))) | (refine st_val rfl (r_indexAddrArrE rfl rfl ?_ ?_) ?_; (first | omega | (simp <;> omega)); (first | omega | (simp <;> omega))) | (refine st_val rfl (r_indexAddrArrL rfl rfl ?_ ?_) ?_; (first | omega | (simp <;> omega)); (first | omega | (simp <;> omega)))) | (refine g_load ?_; (refine st_val rfl (r_loadElemF (hr.mono S.below) rfl ?_ ?_ rfl) ?_; (first | omega | (simp <;> omega)); (first | omega | (simp <;> omega)))) | (refine g_callV ?_; (refine st_callV rfl (r_call2 rfl rfl rfl) (pickC_spec (by omega) (by omega) (by omega)) ?_; intro w hb; replace S := S.grow hb; clear hb)) | (refine g_store ?_; first | (refine st_skipE rfl (r_storeVar (i := 0) S rfl rfl rfl rfl (of_decide_eq_true rfl) (of_decide_eq_true rfl)) ?_; intro w S'; replace S := S'; clear S') | (refine st_skipE rfl (r_storeVar (i := 1) S rfl rfl rfl rfl (of_decide_eq_true rfl) (of_decide_eq_true rfl)) ?_; intro w S'; replace S := S'; clear S')) | (refine WP_cond rfl (fun h => ?_) (fun h => ?_) <;> (fail_if_success (have hh : true = true := h)) <;> (fail_if_success (have hh : false = false := h)) <;> (try simp only [decide_eq_true_eq, decide_eq_false_iff_not, Bool.not_eq_true', Bool.not_eq_false', Int.not_lt, Int.not_le] at h) <;> (try (exfalso; omega))))
        all_goals
          refine ⟨⟨_, ?_, 6, _, b, ⟨rfl, rfl, rfl, rfl, rfl, trivial⟩, ?_, by omega, by omega, rfl⟩⟩
          · omega
          · simp only [wkN, ef] at S ⊢
            exact S
      · have hq : q = 6 := by omega
        subst hq
        repeat' (first | refine WP_seq ?_ | refine WP_region ?_ | refine wl_nil ?_ | refine then_normal ?_ | refine inB_normal ?_ | refine WP_skip ?_ | refine WP_block ?_ | refine WP_condT rfl ?_ | (refine g_move ?_; refine st_move rfl ?_) | (refine g_assign ?_; refine st_assign rfl ?_) | (refine g_b_add ?_; (refine st_val rfl (r_addN rfl rfl ?_ ?_) ?_; (first | omega | (simp <;> omega)); (first | omega | (simp <;> omega)))) | (refine g_b_lss ?_; refine st_val rfl (r_lss rfl rfl) ?_) | (refine g_b_gtr ?_; refine st_val rfl (r_gtr rfl rfl) ?_) | (refine g_fieldAddr ?_; refine st_val rfl (r_fieldAddrL rfl) ?_) | (refine g_indexAddr ?_; first | (refine st_val rfl (r_indexAddr (hr.mono S.below) rfl rfl ?_ ?_) ?_; (first | omega | (simp <;> omega)); (first | omega | (simp <;> omega))) | (refine st_val rfl (r_indexAddrArrE rfl rfl ?_ ?_) ?_; (first | omega | (simp <;> omega)); (first | omega | (simp <;> omega))) | (refine st_val rfl (r_indexAddrArrL rfl rfl ?_ ?_) ?_; (first | omega | (simp <;> omega)); (first | omega | (simp <;> omega)))) | (refine g_load ?_; (refine st_val rfl (r_loadElemF (hr.mono S.below) rfl ?_ ?_ rfl) ?_; (first | omega | (simp <;> omega)); (first | omega | (simp <;> omega)))) | (refine g_callV ?_; (refine st_callV rfl (r_call2 rfl rfl rfl) (pickC_spec (by omega) (by omega) (by omega)) ?_; intro w hb; replace S := S.grow hb; clear hb)) | (refine g_store ?_; first | (refine st_skipE rfl (r_storeVar (i := 0) S rfl rfl rfl rfl (of_decide_eq_true rfl) (of_decide_eq_true rfl)) ?_; intro w S'; replace S := S'; clear S') | (refine st_skipE rfl (r_storeVar (i := 1) S rfl rfl rfl rfl (of_decide_eq_true rfl) (of_decide_eq_true rfl)) ?_; intro w S'; replace S := S'; clear S')) | (refine WP_cond rfl (fun h => ?_) (fun h => ?_) <;> (fail_if_success (have hh : true = true := h)) <;> (fail_if_success (have hh : false = false := h)) <;> (try simp only [decide_eq_true_eq, decide_eq_false_iff_not, Bool.not_eq_true', Bool.not_eq_false', Int.not_lt, Int.not_le] at h) <;> (try (exfalso; omega))))
        all_goals
          refine ⟨⟨_, ?_, 7, _, b, ⟨rfl, rfl, rfl, rfl, rfl, trivial⟩, ?_, by omega, by omega, rfl⟩⟩
          · omega
          · simp only [wkN, ef] at S ⊢
            exact S
  · repeat' (first | refine WP_seq ?_ | refine WP_region ?_ | refine wl_nil ?_ | refine then_normal ?_ | refine then_exit ?_ | refine inB_here ?_ | refine WP_ret ?_ | refine WP_exit ?_ | refine WP_condF rfl ?_ | (refine g_guard ?_; refine st_off rfl ?_) | (refine g_move ?_; refine st_move rfl ?_) | (refine g_assign ?_; refine st_assign rfl ?_) | (refine g_pick ?_; first | refine st_pickT rfl rfl ?_ | refine st_pickF rfl rfl ?_) | (refine g_b_lss ?_; refine st_val rfl (r_lss rfl rfl) ?_) | (refine g_c_len ?_; refine st_val rfl (r_lenSlice rfl) ?_) | (refine wl_split rfl rfl (fun h => ?_) (fun h => ?_) <;> (fail_if_success (have hh : true = true := h)) <;> (fail_if_success (have hh : false = false := h)) <;> (try simp only [decide_eq_true_eq, decide_eq_false_iff_not, Bool.not_eq_true', Bool.not_eq_false', Int.not_lt, Int.not_le] at h) <;> (try (exfalso; omega))) | (refine WP_cond rfl (fun h => ?_) (fun h => ?_) <;> (fail_if_success (have hh : true = true := h)) <;> (fail_if_success (have hh : false = false := h)) <;> (try simp only [decide_eq_true_eq, decide_eq_false_iff_not, Bool.not_eq_true', Bool.not_eq_false', Int.not_lt, Int.not_le] at h) <;> (try (exfalso; omega))))
    all_goals
      have e : i = min xs.length 8 := by omega
      subst e
      exact end1 rfl rfl ⟨_, rfl, S.below, S.row (i := 0) rfl⟩
theorem or_range {x y : Nat} (hx : x < 16777216) (hy : y < 16777216) : 0 ≤ bitsOp .or .i64 (x : Int) (y : Int) ∧ bitsOp .or .i64 (x : Int) (y : Int) ≤ 16777215 := by
  have e : (BitVec.ofInt IntKind.i64.bits (x : Int) ||| BitVec.ofInt IntKind.i64.bits (y : Int)).toNat = x ||| y := by
    rw [BitVec.toNat_or, BitVec.ofInt_natCast, BitVec.ofInt_natCast]
    show (BitVec.ofNat 64 x).toNat ||| (BitVec.ofNat 64 y).toNat = x ||| y
    rw [BitVec.toNat_ofNat, BitVec.toNat_ofNat, Nat.mod_eq_of_lt (by omega), Nat.mod_eq_of_lt (by omega)]
  have h : x ||| y < 2 ^ 24 := Nat.or_lt_two_pow (by omega) (by omega)
  unfold bitsOp
  simp only [e]
  rw [wrap_in (by omega) (by omega)]
  omega
theorem orW_range {x : Int} (h0 : 0 ≤ x) (h1 : x < 16777216) (d : Nat) (hd : d < 7) : 0 ≤ orW x (d : Int) ∧ orW x (d : Int) ≤ 16777215 := by
  obtain ⟨n, rfl⟩ := Int.eq_ofNat_of_zero_le h0
  have hs : ∃ m : Nat, m < 16777216 ∧ IntKind.i64.wrap (1 * 2 ^ (min ((d : Int)).toNat IntKind.i64.bits)) = (m : Int) := by
    match d, hd with
    | 0, _ => exact ⟨1, by decide, by decide⟩
    | 1, _ => exact ⟨2, by decide, by decide⟩
    | 2, _ => exact ⟨4, by decide, by decide⟩
    | 3, _ => exact ⟨8, by decide, by decide⟩
    | 4, _ => exact ⟨16, by decide, by decide⟩
    | 5, _ => exact ⟨32, by decide, by decide⟩
    | 6, _ => exact ⟨64, by decide, by decide⟩
  obtain ⟨m, hm, e⟩ := hs
  unfold orW
  rw [e]
  exact or_range (by omega) hm
theorem wkF_ok (K : GArr8Int) (d : Nat) (hd : d < 7) : okH (wkF K d) = true := by
  have r := pickI_range (c := K.a6) (n := 16777216) (by omega)
  unfold okH wkF
  rw [decide_eq_true_eq]
  split
  · exact orW_range r.1 r.2 d hd
  · omega
theorem madeC_ok (i : Int) (K : GArr8Int) (h0 : 0 ≤ i) (h8 : i < 8) : okC (madeC i K) = true := by
  have r0 := pickI_range (c := K.a0) (n := 10) (by omega)
  have r1 := pickI_range (c := K.a1) (n := 4) (by omega)
  have r2 := pickI_range (c := K.a2) (n := 3) (by omega)
  have r3 := pickI_range (c := K.a3) (n := 200) (by omega)
  have r3' := pickI_range (c := K.a3) (n := 6) (by omega)
  have r4 := pickI_range (c := K.a4) (n := 1 + pickI K.a3 6) (by omega)
  have r4' := pickI_range (c := K.a4) (n := 2000) (by omega)
  have r5 := pickI_range (c := K.a5) (n := 1000) (by omega)
  have r5' := pickI_range (c := K.a5) (n := 300000) (by omega)
  have r7 := pickI_range (c := K.a7) (n := 100000) (by omega)
  have e1 : okN (madeC i K) = true := by unfold okN madeC; rw [decide_eq_true_eq]; dsimp only; omega
  have e2 : okW (madeC i K).Week = true := by
    show okW (wkN (wkF K) 7) = true
    unfold okW wkN
    have h := fun d hd => wkF_ok K d hd
    simp only [wkL, List.all_cons, List.all_nil, Bool.and_true]
    simp [h 0 (by omega), h 1 (by omega), h 2 (by omega), h 3 (by omega), h 4 (by omega), h 5 (by omega), h 6 (by omega)]
  have e3 : okS (madeC i K).Window = true := by unfold okS madeC; rw [decide_eq_true_eq]; dsimp only; omega
  unfold okC; rw [e1, e2, e3]; rfl
theorem madeN_nth (xs : List GArr8Int) (n : Nat) {i : Int} (h0 : 0 ≤ i) (hi : i < n) : nth (madeN xs n) i = madeC i (nth xs i) := by
  have h := nth_get (l := madeN xs n) (i := i) h0 (by rw [madeN_len]; exact hi)
  unfold madeN at h
  rw [List.getElem?_map, List.getElem?_range (by omega)] at h
  have : madeC ((i.toNat : Nat) : Int) (nth xs ((i.toNat : Nat) : Int)) = _ := Option.some.inj h
  rw [Int.toNat_of_nonneg h0] at this
  exact this.symm
theorem madeL_len (xs : List GArr8Int) : (madeL xs).length ≤ 8 := by unfold madeL; rw [madeN_len]; omega
theorem madeL_ok (xs : List GArr8Int) : validC (madeL xs) = true := by
  refine validC_of (fun j h0 hj => ?_) (decide_eq_true (by have := madeL_len xs; omega))
  have hl := madeL_len xs
  unfold madeL at hj ⊢
  rw [madeN_len] at hj
  have e := madeN_nth xs (min xs.length 8) h0 hj
  refine okAt_of (by rw [e]; exact madeC_ok _ _ h0 (by omega)) ?_
  unfold prevC
  have r := pickI_range (c := (nth xs j).a0) (n := 10) (by omega)
  rw [e]
  split
  · show -1 < 10 * j + pickI (nth xs j).a0 10
    omega
  · rw [madeN_nth xs (min xs.length 8) (i := j - 1) (by omega) (by omega)]
    have r' := pickI_range (c := (nth xs (j - 1)).a0) (n := 10) (by omega)
    show 10 * (j - 1) + pickI (nth xs (j - 1)).a0 10 < 10 * j + pickI (nth xs j).a0 10
    omega
def spotF (l : List GContract) (y : GArr2Int) : GSpot := ⟨if 0 < (l.length : Int) ∧ 0 < pickI y.a0 9 then (nth l (pickI y.a0 l.length)).ID else pickI y.a0 100, pickI y.a1 300000⟩
def spotsN (l : List GContract) (ys : List GArr2Int) (n : Nat) : List GSpot := (List.range n).map fun (i : Nat) => spotF l (nth ys (i : Int))
def spotsL (l : List GContract) (ys : List GArr2Int) : List GSpot := spotsN l ys (min ys.length 24)
theorem spotsN_succ (l : List GContract) (ys : List GArr2Int) (n : Nat) : spotsN l ys (n + 1) = spotsN l ys n ++ [spotF l (nth ys (n : Int))] := by unfold spotsN; rw [List.range_succ, List.map_append]; rfl
theorem spotsN_len (l : List GContract) (ys : List GArr2Int) (n : Nat) : (spotsN l ys n).length = n := by simp [spotsN]
theorem spotsL_len (l : List GContract) (ys : List GArr2Int) : (spotsL l ys).length ≤ 24 := by unfold spotsL; rw [spotsN_len]; omega
theorem spotF_ok {l : List GContract} (hl : validC l = true) (y : GArr2Int) : okP (spotF l y) = true ∧ (spotF l y).At < 300000 := by
  have r0 := pickI_range (c := y.a0) (n := 100) (by omega)
  have r1 := pickI_range (c := y.a1) (n := 300000) (by omega)
  refine ⟨?_, r1.2⟩
  unfold okP spotF
  rw [decide_eq_true_eq]
  dsimp only
  split
  · rename_i h
    have r2 := pickI_range (c := y.a0) (n := (l.length : Int)) h.1
    have := okC_id (valid_ok hl (nth_mem r2.1 r2.2))
    omega
  · omega
theorem spotsL_ok {l : List GContract} (hl : validC l = true) (ys : List GArr2Int) : validP (spotsL l ys) = true := by
  unfold validP
  rw [decide_eq_true (by have := spotsL_len l ys; omega), Bool.true_and, List.all_eq_true]
  intro x hx
  unfold spotsL spotsN at hx
  obtain ⟨i, _, rfl⟩ := List.mem_map.1 hx
  exact (spotF_ok hl _).1
set_option maxHeartbeats 1000000 in
theorem spots_run {v1 v2 : Value} {l : List GContract} {ys : List GArr2Int} {w0 : World} (hr1 : Rd fGContract.ty w0 v1 l) (hr2 : Rd fGArr2Int.ty w0 v2 ys) (hy : ∀ y ∈ ys, okA2 y) (hl : l.length ≤ 1000000000) (hl2 : ys.length ≤ maxLen) :
    CallsR Tryd.prog 23 #[v1, v2] w0 (fun r w' => NewRow fGSpot 78 w0 w' r (spotsL l ys)) := by
  have S := St.start w0
  have hml : maxLen ≤ 9223372036854775807 := by decide
  obtain ⟨A, c, rfl⟩ := hr1.len
  obtain ⟨A2, c2, rfl⟩ := hr2.len
  refine CallsR.mk ?_
  refine calls_enter Tryd.func23 rfl (by intro _ h; first | exact nomatch h.1 | (obtain ⟨_, h, _⟩ := h; exact nomatch h)) Tryd.ntmps23 rfl ?_
  repeat' (first | refine WP_seq ?_ | refine WP_region ?_ | refine wl_nil ?_ | refine then_normal ?_ | refine WP_block ?_ | (refine g_assign ?_; refine st_assign rfl ?_))
  replace S := S.nilRow fGSpot 78
  refine WP_loop (fun m σ w1 => ∃ (i : Nat) (p : Int) (vo : Value), Has σ [(0, .slice A l.length c), (1, .slice A2 ys.length c2), (5, vo), (6, .int .i64 p)] ∧ St w0 w1 [rowOb fGSpot 78 vo (spotsN l ys i)] ∧ p = i ∧ i ≤ min ys.length 24 ∧ m = 24 - i) 24 ⟨0, _, _, ⟨rfl, rfl, rfl, rfl, trivial⟩, S, rfl, by omega, rfl⟩ ?_
  clear S
  rintro m σ w1 ⟨i, p, vo, hs, S, hp, hi1, hm⟩
  refine WP_has hs ?_
  have hol := spotsN_len l ys i
  by_cases hi : i < min ys.length 24
  · obtain ⟨x0, x1⟩ := hy _ (nth_mem (l := ys) (i := p) (by omega) (by omega))
    unfold inI at x0 x1
    have r9 := pickI_range (c := (nth ys p).a0) (n := 9) (by omega)
    by_cases hc : 0 < (l.length : Int) ∧ 0 < pickI (nth ys p).a0 9
    · have rl := pickI_range (c := (nth ys p).a0) (n := (l.length : Int)) hc.1
      have ef : spotF l (nth ys p) = ⟨(nth l (pickI (nth ys p).a0 l.length)).ID, pickI (nth ys p).a1 300000⟩ := by unfold spotF; rw [if_pos hc]
      repeat' (first | refine WP_seq ?_ | refine WP_region ?_ | refine wl_nil ?_ | refine then_normal ?_ | refine WP_skip ?_ | refine WP_block ?_ | refine WP_drawGrow 13 14 (by kernel_rfl) (by decide +kernel) ?_ | refine wg_nil ?_ | (refine wg_val rfl (r_alloc S) (by rintro _ _ ⟨b, -, h, -⟩; exact h) ?_; rintro _ w ⟨b, rfl, -, S'⟩ w hb; replace S := S'.grow hb; clear S' hb) | (refine ql_nil ?_; intro w hb; replace S := S.grow hb; clear hb) | (refine g_move ?_; refine st_move rfl ?_) | (refine g_pick ?_; refine st_pickT rfl rfl ?_) | (refine g_b_lss ?_; refine st_val rfl (r_lss rfl rfl) ?_) | (refine g_b_gtr ?_; refine st_val rfl (r_gtr rfl rfl) ?_) | (refine g_c_len ?_; refine st_val rfl (r_lenSlice rfl) ?_) | (refine g_fieldAddr ?_; first | refine st_val rfl (r_fieldAddrL rfl) ?_ | refine st_val rfl (r_fieldAddr rfl) ?_) | (refine g_indexAddr ?_; first | (refine st_val rfl (r_indexAddr (hr1.mono S.below) rfl rfl ?_ ?_) ?_; (first | omega | (simp <;> omega)); (first | omega | (simp <;> omega))) | (refine st_val rfl (r_indexAddr (hr2.mono S.below) rfl rfl ?_ ?_) ?_; (first | omega | (simp <;> omega)); (first | omega | (simp <;> omega))) | (refine st_val rfl (r_indexAddrArrE rfl rfl ?_ ?_) ?_; (first | omega | (simp <;> omega)); (first | omega | (simp <;> omega)))) | (refine g_load ?_; first | (refine st_val rfl (r_loadElem1 (hr1.mono S.below) rfl ?_ ?_ rfl) ?_; (first | omega | (simp <;> omega)); (first | omega | (simp <;> omega))) | (refine st_val rfl (r_loadElem1 (hr2.mono S.below) rfl ?_ ?_ rfl) ?_; (first | omega | (simp <;> omega)); (first | omega | (simp <;> omega))) | refine st_val rfl (r_loadVarA (i := 1) S rfl rfl rfl rfl) ?_) | (refine g_callV ?_; (refine st_callV rfl (r_call2 rfl rfl rfl) (pickC_spec (by omega) (by omega) (by omega)) ?_; intro w hb; replace S := S.grow hb; clear hb)) | (refine gq_move ?_; refine q_move rfl ?_) | (refine gq_build ?_; refine q_val rfl (fun w' hb => bd78_0_1 rfl rfl) ?_) | (refine gq_indexAddr ?_; first | (refine q_val rfl (fun w' hb => r_indexAddr (hr2.mono (S.grow hb).below) rfl rfl ?_ ?_) ?_; (first | omega | (simp <;> omega)); (first | omega | (simp <;> omega))) | (refine q_val rfl (fun w' hb => r_indexAddrArrE rfl rfl ?_ ?_) ?_; (first | omega | (simp <;> omega)); (first | omega | (simp <;> omega)))) | (refine gq_load ?_; first | (refine q_val rfl (fun w' hb => r_loadElem1 (hr2.mono (S.grow hb).below) rfl ?_ ?_ rfl) ?_; (first | omega | (simp <;> omega)); (first | omega | (simp <;> omega))) | (refine q_val rfl (fun w' hb => r_loadElemF (hr2.mono (S.grow hb).below) rfl ?_ ?_ rfl) ?_; (first | omega | (simp <;> omega)); (first | omega | (simp <;> omega)))) | (refine gq_callV ?_; refine q_callV rfl (fun w' hb => r_call2 rfl rfl rfl) (fun w' hb => pickC_spec (by omega) (by omega) (by omega)) ?_) | (refine g_store ?_; first | (refine st_skipE rfl (r_storeVar (i := 0) S rfl rfl rfl rfl (of_decide_eq_true rfl) (of_decide_eq_true rfl)) ?_; intro w S'; replace S := S'; clear S') | (refine st_skipE rfl (r_storeVar (i := 1) S rfl rfl rfl rfl (of_decide_eq_true rfl) (of_decide_eq_true rfl)) ?_; intro w S'; replace S := S'; clear S')) | (refine wl_split rfl rfl (fun h => ?_) (fun h => ?_) <;> (fail_if_success (have hh : true = true := h)) <;> (fail_if_success (have hh : false = false := h)) <;> (try simp only [decide_eq_true_eq, decide_eq_false_iff_not, Bool.not_eq_true', Bool.not_eq_false', Int.not_lt, Int.not_le] at h) <;> (try (exfalso; omega))) | (refine WP_cond rfl (fun h => ?_) (fun h => ?_) <;> (fail_if_success (have hh : true = true := h)) <;> (fail_if_success (have hh : false = false := h)) <;> (try simp only [decide_eq_true_eq, decide_eq_false_iff_not, Bool.not_eq_true', Bool.not_eq_false', Int.not_lt, Int.not_le] at h) <;> (try (exfalso; omega))))
      refine st_valE rfl (r_litF (D := fGSpot) [spotF l (nth ys p)] (fun y => .agg y.enc.toArray) S (by rw [ef]; rfl) rfl (fun _ => rfl) rfl (Nat.succ_pos _) (by show 1 * 2 ≤ _; decide)) ?_
      rintro _ w ⟨bl, rfl, -, hcl, S'⟩; replace S := S'; clear S'
      refine st_valE rfl (r_append1 (D := fGSpot) (i := 0) (b := bl) (x := spotF l (nth ys p)) S rfl rfl rfl (fl_one hcl) rfl (by decide) (one_sp _) (by omega) (by omega)) ?_
      rintro vo' w ⟨-, S'⟩; replace S := S'; clear S' hcl
      repeat' (first | refine WP_region ?_ | refine wl_nil ?_ | refine then_normal ?_ | refine inB_normal ?_ | (refine g_move ?_; refine st_move rfl ?_) | (refine g_assign ?_; refine st_assign rfl ?_) | (refine g_b_add ?_; (refine st_val rfl (r_addN rfl rfl ?_ ?_) ?_; (first | omega | (simp <;> omega)); (first | omega | (simp <;> omega)))))
      refine ⟨⟨_, ?_, i + 1, _, vo', ⟨rfl, rfl, rfl, rfl, trivial⟩, by rw [spotsN_succ, ← hp]; exact S.keep [true], by omega, by omega, rfl⟩⟩
      omega
    · have ef : spotF l (nth ys p) = ⟨pickI (nth ys p).a0 100, pickI (nth ys p).a1 300000⟩ := by unfold spotF; rw [if_neg hc]
      repeat' (first | refine WP_seq ?_ | refine WP_region ?_ | refine wl_nil ?_ | refine then_normal ?_ | refine WP_skip ?_ | refine WP_block ?_ | refine WP_condF rfl ?_ | refine WP_drawGrow 13 14 (by kernel_rfl) (by decide +kernel) ?_ | refine wg_nil ?_ | (refine wg_val rfl (r_alloc S) (by rintro _ _ ⟨b, -, h, -⟩; exact h) ?_; rintro _ w ⟨b, rfl, -, S'⟩ w hb; replace S := S'.grow hb; clear S' hb) | (refine ql_nil ?_; intro w hb; replace S := S.grow hb; clear hb) | (refine g_guard ?_; refine st_off rfl ?_) | (refine g_move ?_; refine st_move rfl ?_) | (refine g_pick ?_; first | refine st_pickT rfl rfl ?_ | refine st_pickF rfl rfl ?_) | (refine g_b_lss ?_; refine st_val rfl (r_lss rfl rfl) ?_) | (refine g_b_gtr ?_; refine st_val rfl (r_gtr rfl rfl) ?_) | (refine g_c_len ?_; refine st_val rfl (r_lenSlice rfl) ?_) | (refine g_indexAddr ?_; first | (refine st_val rfl (r_indexAddr (hr2.mono S.below) rfl rfl ?_ ?_) ?_; (first | omega | (simp <;> omega)); (first | omega | (simp <;> omega))) | (refine st_val rfl (r_indexAddrArrE rfl rfl ?_ ?_) ?_; (first | omega | (simp <;> omega)); (first | omega | (simp <;> omega)))) | (refine g_load ?_; first | (refine st_val rfl (r_loadElem1 (hr2.mono S.below) rfl ?_ ?_ rfl) ?_; (first | omega | (simp <;> omega)); (first | omega | (simp <;> omega))) | refine st_val rfl (r_loadVarA (i := 1) S rfl rfl rfl rfl) ?_) | (refine g_callV ?_; (refine st_callV rfl (r_call2 rfl rfl rfl) (pickC_spec (by omega) (by omega) (by omega)) ?_; intro w hb; replace S := S.grow hb; clear hb)) | (refine gq_move ?_; refine q_move rfl ?_) | (refine gq_build ?_; refine q_val rfl (fun w' hb => bd78_0_1 rfl rfl) ?_) | (refine gq_indexAddr ?_; first | (refine q_val rfl (fun w' hb => r_indexAddr (hr2.mono (S.grow hb).below) rfl rfl ?_ ?_) ?_; (first | omega | (simp <;> omega)); (first | omega | (simp <;> omega))) | (refine q_val rfl (fun w' hb => r_indexAddrArrE rfl rfl ?_ ?_) ?_; (first | omega | (simp <;> omega)); (first | omega | (simp <;> omega)))) | (refine gq_load ?_; first | (refine q_val rfl (fun w' hb => r_loadElem1 (hr2.mono (S.grow hb).below) rfl ?_ ?_ rfl) ?_; (first | omega | (simp <;> omega)); (first | omega | (simp <;> omega))) | (refine q_val rfl (fun w' hb => r_loadElemF (hr2.mono (S.grow hb).below) rfl ?_ ?_ rfl) ?_; (first | omega | (simp <;> omega)); (first | omega | (simp <;> omega)))) | (refine gq_callV ?_; refine q_callV rfl (fun w' hb => r_call2 rfl rfl rfl) (fun w' hb => pickC_spec (by omega) (by omega) (by omega)) ?_) | (refine g_store ?_; first | (refine st_skipE rfl (r_storeVar (i := 0) S rfl rfl rfl rfl (of_decide_eq_true rfl) (of_decide_eq_true rfl)) ?_; intro w S'; replace S := S'; clear S') | (refine st_skipE rfl (r_storeVar (i := 1) S rfl rfl rfl rfl (of_decide_eq_true rfl) (of_decide_eq_true rfl)) ?_; intro w S'; replace S := S'; clear S')) | (refine wl_split rfl rfl (fun h => ?_) (fun h => ?_) <;> (fail_if_success (have hh : true = true := h)) <;> (fail_if_success (have hh : false = false := h)) <;> (try simp only [decide_eq_true_eq, decide_eq_false_iff_not, Bool.not_eq_true', Bool.not_eq_false', Int.not_lt, Int.not_le] at h) <;> (try (exfalso; omega))) | (refine WP_cond rfl (fun h => ?_) (fun h => ?_) <;> (fail_if_success (have hh : true = true := h)) <;> (fail_if_success (have hh : false = false := h)) <;> (try simp only [decide_eq_true_eq, decide_eq_false_iff_not, Bool.not_eq_true', Bool.not_eq_false', Int.not_lt, Int.not_le] at h) <;> (try (exfalso; omega))))
      all_goals
        refine st_valE rfl (r_litF (D := fGSpot) [spotF l (nth ys p)] (fun y => .agg y.enc.toArray) S (by rw [ef]; rfl) rfl (fun _ => rfl) rfl (Nat.succ_pos _) (by show 1 * 2 ≤ _; decide)) ?_
        rintro _ w ⟨bl, rfl, -, hcl, S'⟩; replace S := S'; clear S'
        refine st_valE rfl (r_append1 (D := fGSpot) (i := 0) (b := bl) (x := spotF l (nth ys p)) S rfl rfl rfl (fl_one hcl) rfl (by decide) (one_sp _) (by omega) (by omega)) ?_
        rintro vo' w ⟨-, S'⟩; replace S := S'; clear S' hcl
        repeat' (first | refine WP_region ?_ | refine wl_nil ?_ | refine then_normal ?_ | refine inB_normal ?_ | (refine g_move ?_; refine st_move rfl ?_) | (refine g_assign ?_; refine st_assign rfl ?_) | (refine g_b_add ?_; (refine st_val rfl (r_addN rfl rfl ?_ ?_) ?_; (first | omega | (simp <;> omega)); (first | omega | (simp <;> omega)))))
        refine ⟨⟨_, ?_, i + 1, _, vo', ⟨rfl, rfl, rfl, rfl, trivial⟩, by rw [spotsN_succ, ← hp]; exact S.keep [true], by omega, by omega, rfl⟩⟩
        omega
  · repeat' (first | refine WP_seq ?_ | refine WP_region ?_ | refine wl_nil ?_ | refine then_normal ?_ | refine then_exit ?_ | refine inB_here ?_ | refine WP_ret ?_ | refine WP_exit ?_ | refine WP_condF rfl ?_ | (refine g_guard ?_; refine st_off rfl ?_) | (refine g_move ?_; refine st_move rfl ?_) | (refine g_assign ?_; refine st_assign rfl ?_) | (refine g_pick ?_; first | refine st_pickT rfl rfl ?_ | refine st_pickF rfl rfl ?_) | (refine g_b_lss ?_; refine st_val rfl (r_lss rfl rfl) ?_) | (refine g_c_len ?_; refine st_val rfl (r_lenSlice rfl) ?_) | (refine wl_split rfl rfl (fun h => ?_) (fun h => ?_) <;> (fail_if_success (have hh : true = true := h)) <;> (fail_if_success (have hh : false = false := h)) <;> (try simp only [decide_eq_true_eq, decide_eq_false_iff_not, Bool.not_eq_true', Bool.not_eq_false', Int.not_lt, Int.not_le] at h) <;> (try (exfalso; omega))) | (refine WP_cond rfl (fun h => ?_) (fun h => ?_) <;> (fail_if_success (have hh : true = true := h)) <;> (fail_if_success (have hh : false = false := h)) <;> (try simp only [decide_eq_true_eq, decide_eq_false_iff_not, Bool.not_eq_true', Bool.not_eq_false', Int.not_lt, Int.not_le] at h) <;> (try (exfalso; omega))))
    all_goals
      have e : i = min ys.length 24 := by omega
      subst e
      exact end1 rfl rfl ⟨_, rfl, S.below, S.row (i := 0) rfl⟩
end Go.Proofs.YtgdmaadikcnagaaDoor
