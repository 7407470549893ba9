/- Merged texts: R, S, T, U, V, W, X, Y. -/
import Derived.Test.YtijnbpnficcpmaaDoorMC1
import Derived.Test.YtijnbpnficcpmaaDoorMG2
namespace Go.Proofs.YtijnbpnficcpmaaDoor
open Go Go.Gx Go.RowKit
set_option linter.unusedVariables false
set_option linter.unusedSimpArgs false

abbrev cM (l : List GContract) : List (Int × GContract) := l.map fun c => (c.ID, c)
/-- What count hands back. -/
def CountR (l : List GContract) (sp : List GSpot) (w0 : World) (r : Value) (w' : World) : Prop :=
  ∃ (bt b1 b2 b3 b4 : Nat) (Sp : List (GSpot × Bool)) (Mn : List (Int × Int)) (Dy : List (GDay × Int)) (vo : Value) (turn : List Int), Ord sp turn ∧ r = .tuple #[.pointer (some ⟨bt, 0, none⟩), vo, .int .i64 0] ∧ Tal l (spAt sp (outOf l sp turn)) (cM l) Sp Mn Dy ∧
    St w0 w' [mapOb eI eC b1 (cM l), mapOb eP eB b2 Sp, mapOb eI eI b3 Mn, mapOb eD eI b4 Dy, .var bt 142 [.map (some b1), .map (some b2), .map (some b3), .map (some b4)], rowOb (fInt .i64) 3 vo (outOf l sp turn)]
theorem spAt_mem {sp : List GSpot} {turn : List Int} {l : List GContract} (h : ∀ x ∈ turn, 0 ≤ x ∧ x < sp.length) : ∀ s ∈ spAt sp (outOf l sp turn), s ∈ sp := by
  intro s hs
  obtain ⟨i, hi, rfl⟩ := List.mem_map.1 hs
  have := h i (outOf_mem hi)
  exact nth_mem this.1 this.2
theorem talAt_of {w0 w : World} {bt b1 b2 b3 b4 : Nat} {C : List (Int × GContract)} {Sp : List (GSpot × Bool)} {Mn : List (Int × Int)} {Dy : List (GDay × Int)} {o0 o1 : Ob} {ex : List Ob} (S : St w0 w (o0 :: o1 :: mapOb eI eC b1 C :: mapOb eP eB b2 Sp :: mapOb eI eI b3 Mn :: mapOb eD eI b4 Dy :: .var bt 142 [.map (some b1), .map (some b2), .map (some b3), .map (some b4)] :: ex)) : TalAt w bt b1 b2 b3 b4 C Sp Mn Dy :=
  ⟨S.var (i := 6) rfl, S.mapAt (i := 2) rfl, S.mapAt (i := 3) rfl, S.mapAt (i := 4) rfl, S.mapAt (i := 5) rfl⟩
theorem reason_is {w0 : World} {bt b1 b2 b3 b4 : Nat} {C : List (Int × GContract)} {Sp : List (GSpot × Bool)} {Mn : List (Int × Int)} {Dy : List (GDay × Int)} {x : GSpot} {z : Int} (hz : rsnM C Sp Mn Dy x = z) (T : TalAt w0 bt b1 b2 b3 b4 C Sp Mn Dy) (hG : TblAt w0) (hx : 0 ≤ x.At ∧ x.At ≤ 9999999) (hs : ∀ s ∈ Sp, 0 ≤ s.1.At ∧ s.1.At ≤ 9999999) : CallsV Tryd.prog 94 #[.pointer (some ⟨bt, 0, none⟩), .agg x.enc.toArray] w0 (.int .i64 z) := by
  rw [← hz]; exact reason_spec T hG hx hs
theorem touch_get {K : Type} [DecidableEq K] {k : K} {l : List (K × Int)} : (mGet k (mTouch k 0 l)).getD 0 = (mGet k l).getD 0 := by
  unfold mTouch
  cases h : mGet k l with
  | some x => rw [h]
  | none =>
    rw [mGet_append, h]
    simp [mGet]
theorem cntC_le {cnt : List GSpot} {id : Int} : 0 ≤ cntC cnt id ∧ cntC cnt id ≤ cnt.length := by
  unfold cntC; have := List.countP_le_length (p := fun s : GSpot => decide (s.Contract = id)) (l := cnt); omega
theorem cntD_le {cnt : List GSpot} {d : GDay} : 0 ≤ cntD cnt d ∧ cntD cnt d ≤ cnt.length := by
  unfold cntD; have := List.countP_le_length (p := fun s : GSpot => decide (onD s = d)) (l := cnt); omega
set_option maxHeartbeats 2000000 in
theorem count_ok {l : List GContract} {sp : List GSpot} {v1 v2 : Value} {w0 : World} (hr1 : Rd fGContract.ty w0 v1 l) (hr2 : Rd fGSpot.ty w0 v2 sp) (h1 : validC l = true) (h2 : validP sp = true) (hG : TblAt w0) :
    CallsR Tryd.prog 66 #[v1, v2] w0 (CountR l sp w0) := by
  have S := St.start w0
  have hl := validC_len h1
  have hl2 := validP_len h2
  obtain ⟨A, c, rfl⟩ := hr1.len
  obtain ⟨A2, c2, rfl⟩ := hr2.len
  refine CallsR.mk ?_
  refine calls_enter Tryd.func66 rfl (by intro _ h; first | exact nomatch h.1 | (obtain ⟨_, h, _⟩ := h; exact nomatch h)) Tryd.ntmps66 rfl ?_
  repeat' (first | refine WP_seq ?_ | refine WP_region ?_ | refine wl_nil ?_ | refine then_normal ?_ | refine WP_skip ?_ | refine WP_condF rfl ?_ | (refine g_move ?_; refine st_move rfl ?_) | (refine g_assign ?_; refine st_assign rfl ?_) | (refine g_pick ?_; refine st_pickF rfl rfl ?_) | (refine g_un ?_; refine st_val rfl (r_not rfl) ?_) | (refine g_load ?_; refine st_val rfl (r_loadVar (i := 0) S rfl rfl rfl) ?_) | (refine g_callV ?_; first | (refine st_callV rfl (r_call1 rfl rfl) (valid_is h1 (hr1.mono S.below) (by omega)) ?_; intro w hb; replace S := S.grow hb; clear hb) | (refine st_callV rfl (r_call1 rfl rfl) (validSpots_is h2 (hr2.mono S.below) (by omega)) ?_; intro w hb; replace S := S.grow hb; clear hb)) | (refine g_box ?_; refine st_valE rfl (r_box S rfl) ?_; rintro _ w ⟨b, rfl, -, S'⟩; replace S := S'; clear S'))
  obtain ⟨bs, rfl⟩ : ∃ x, x = b := ⟨_, rfl⟩
  refine st_valE rfl (r_makeMap (eK := eI) (eV := eC) S) ?_
  rintro _ w ⟨b1, rfl, -, S'⟩; replace S := S'; clear S'
  refine st_valE rfl (r_makeMap (eK := eP) (eV := eB) S) ?_
  rintro _ w ⟨b2, rfl, -, S'⟩; replace S := S'; clear S'
  refine st_valE rfl (r_makeMap (eK := eI) (eV := eI) S) ?_
  rintro _ w ⟨b3, rfl, -, S'⟩; replace S := S'; clear S'
  refine st_valE rfl (r_makeMap (eK := eD) (eV := eI) S) ?_
  rintro _ w ⟨b4, rfl, -, S'⟩; replace S := S'; clear S'
  repeat' (first | refine WP_seq ?_ | refine WP_region ?_ | refine wl_nil ?_ | refine then_normal ?_ | refine WP_block ?_ | (refine g_move ?_; refine st_move rfl ?_) | (refine g_assign ?_; refine st_assign rfl ?_) | (refine g_build ?_; refine st_val rfl (bd142_0_1_2_3 rfl rfl rfl rfl) ?_) | (refine g_c_len ?_; refine st_val rfl (r_lenSlice rfl) ?_) | (refine g_box ?_; refine st_valE rfl (r_box S rfl) ?_; rintro _ w ⟨b, rfl, -, S'⟩; replace S := S'; clear S'))
  obtain ⟨bt, rfl⟩ : ∃ x, x = b := ⟨_, rfl⟩
  refine WP_loop (fun k σ w1 => ∃ (i : Int), Has σ [(3, .pointer (some ⟨bs, 0, none⟩)), (7, .pointer (some ⟨bt, 0, none⟩)), (30, .slice A l.length c), (31, .int .i64 l.length), (32, .int .i64 i)] ∧ St w0 w1 [.var bs 23 [.slice A2 sp.length c2], mapOb eI eC b1 (cM (l.take i.toNat)), mapOb eP eB b2 [], mapOb eI eI b3 [], mapOb eD eI b4 [], .var bt 142 [.map (some b1), .map (some b2), .map (some b3), .map (some b4)]] ∧ 0 ≤ i ∧ i ≤ l.length ∧ k = l.length - i.toNat) l.length ⟨0, ⟨rfl, rfl, rfl, rfl, rfl, trivial⟩, S, by omega, by omega, by omega⟩ ?_
  clear S
  rintro k σ w1 ⟨i, hs, S, hi0, hi1, hk⟩
  refine WP_has hs ?_
  by_cases hi : i < l.length
  · repeat' (first | refine WP_seq ?_ | refine WP_region ?_ | refine wl_nil ?_ | refine then_normal ?_ | refine inB_normal ?_ | refine WP_skip ?_ | refine WP_block ?_ | refine WP_drawTail 7 (by kernel_rfl) (by decide +kernel) ?_ | (refine ql_nil ?_; intro w hb; replace S := S.grow hb; clear hb) | (refine g_move ?_; refine st_move rfl ?_) | (refine g_b_add ?_; (refine st_val rfl (r_addN rfl rfl ?_ ?_) ?_; (first | omega | (simp <;> omega)); (first | omega | (simp <;> omega)))) | (refine g_b_lss ?_; refine st_val rfl (r_lss rfl rfl) ?_) | (refine g_indexAddr ?_; (refine st_val rfl (r_indexAddr (hr1.mono S.below) rfl rfl ?_ ?_) ?_; (first | omega | (simp <;> omega)); (first | omega | (simp <;> omega)))) | (refine g_load ?_; (refine st_val rfl (r_loadElem (hr1.mono S.below) rfl ?_ ?_) ?_; (first | omega | (simp <;> omega)); (first | omega | (simp <;> omega)))) | (refine gq_move ?_; refine q_move rfl ?_) | (refine gq_nilCheck ?_; refine q_val rfl (fun w' hb => r_nilCheck rfl) ?_) | (refine gq_fieldAddr ?_; refine q_val rfl (fun w' hb => r_fieldAddrL rfl) ?_) | (refine gq_load ?_; first | refine q_val rfl (fun w' hb => r_loadVar (i := 5) (S.grow hb) rfl rfl rfl) ?_ | refine q_val rfl (fun w' hb => r_loadVar (i := 6) (S.grow hb) rfl rfl rfl) ?_ | refine q_val rfl (fun w' hb => r_loadVarA (i := 6) (S.grow hb) rfl rfl rfl rfl) ?_) | (refine g_alloc ?_; refine st_valE rfl (r_alloc S) ?_; rintro _ w ⟨b, rfl, -, S'⟩; replace S := S'; clear S') | (refine g_store ?_; first | (refine st_skipE rfl (r_storeVar (i := 0) S rfl rfl rfl rfl (of_decide_eq_true rfl) (of_decide_eq_true rfl)) ?_; intro w S'; replace S := S'; clear S') | (refine st_skipE rfl (r_storeVar (i := 1) S rfl rfl rfl rfl (of_decide_eq_true rfl) (of_decide_eq_true rfl)) ?_; intro w S'; replace S := S'; clear S') | (refine st_skipE rfl (r_storeVar (i := 2) S rfl rfl rfl rfl (of_decide_eq_true rfl) (of_decide_eq_true rfl)) ?_; intro w S'; replace S := S'; clear S') | (refine st_skipE rfl (r_storeVar (i := 3) S rfl rfl rfl rfl (of_decide_eq_true rfl) (of_decide_eq_true rfl)) ?_; intro w S'; replace S := S'; clear S') | (refine st_skipE rfl (r_storeVar (i := 4) S rfl rfl rfl rfl (of_decide_eq_true rfl) (of_decide_eq_true rfl)) ?_; intro w S'; replace S := S'; clear S') | (refine st_skipE rfl (r_storeVar (i := 5) S rfl rfl rfl rfl (of_decide_eq_true rfl) (of_decide_eq_true rfl)) ?_; intro w S'; replace S := S'; clear S') | (refine st_skipE rfl (r_storeVar (i := 6) S rfl rfl rfl rfl (of_decide_eq_true rfl) (of_decide_eq_true rfl)) ?_; intro w S'; replace S := S'; clear S')) | (refine st_skipE rfl (r_mapUpdate (i := 1) (eK := eI) (eV := eC) (k := (nth l i).ID) (v := nth l i) S rfl rfl rfl rfl) ?_; intro w S'; replace S := S'; clear S') | (refine WP_cond rfl (fun h => ?_) (fun h => ?_) <;> (fail_if_success (have hh : true = true := h)) <;> (fail_if_success (have hh : false = false := h)) <;> (try simp only [decide_eq_true_eq, decide_eq_false_iff_not, Bool.not_eq_true', Bool.not_eq_false', Int.not_lt, Int.not_le] at h) <;> (try (exfalso; omega))))
    rw [take_put h1 hi0 hi] at S
    refine ⟨⟨_, ?_, i + 1, ⟨rfl, rfl, rfl, rfl, rfl, trivial⟩, S.keep [true, true, true, true, true, true], by omega, by omega, rfl⟩⟩
    omega
  have hil : i.toNat = l.length := by omega
  rw [hil, List.take_length] at S
  repeat' (first | refine WP_seq ?_ | refine WP_region ?_ | refine wl_nil ?_ | refine then_normal ?_ | refine then_exit ?_ | refine inB_here ?_ | refine WP_exit ?_ | refine WP_block ?_ | (refine g_move ?_; refine st_move rfl ?_) | (refine g_assign ?_; refine st_assign rfl ?_) | (refine g_b_lss ?_; refine st_val rfl (r_lss rfl rfl) ?_) | (refine g_c_len ?_; refine st_val rfl (r_lenSlice rfl) ?_) | (refine g_load ?_; refine st_val rfl (r_loadVar (i := 0) S rfl rfl rfl) ?_) | (refine WP_cond rfl (fun h => ?_) (fun h => ?_) <;> (fail_if_success (have hh : true = true := h)) <;> (fail_if_success (have hh : false = false := h)) <;> (try simp only [decide_eq_true_eq, decide_eq_false_iff_not, Bool.not_eq_true', Bool.not_eq_false', Int.not_lt, Int.not_le] at h) <;> (try (exfalso; omega))))
  replace S := (S.nilRow (fInt .i64) 3).nilRow (fInt .i64) 3
  refine WP_loop (fun k σ w1 => ∃ (i : Int) (vt : Value), Has σ [(3, .pointer (some ⟨bs, 0, none⟩)), (7, .pointer (some ⟨bt, 0, none⟩)), (10, vt), (11, .slice none 0 0), (45, .int .i64 sp.length), (46, .int .i64 i)] ∧ St w0 w1 [.var bs 23 [.slice A2 sp.length c2], mapOb eI eC b1 (cM l), mapOb eP eB b2 [], mapOb eI eI b3 [], mapOb eD eI b4 [], .var bt 142 [.map (some b1), .map (some b2), .map (some b3), .map (some b4)], rowOb (fInt .i64) 3 vt (tab idf i.toNat), rowOb (fInt .i64) 3 (.slice none 0 0) []] ∧ 0 ≤ i ∧ i ≤ sp.length ∧ k = sp.length - i.toNat) sp.length ⟨0, _, ⟨rfl, rfl, rfl, rfl, rfl, rfl, trivial⟩, S, by omega, by omega, by omega⟩ ?_
  clear S hs
  rintro k σ w1 ⟨i, vt, hs, S, hi0, hi1, hk⟩
  refine WP_has hs ?_
  by_cases hi : i < sp.length
  · have hlen := @tab_len idf i.toNat
    repeat' (first | refine WP_seq ?_ | refine WP_region ?_ | refine wl_nil ?_ | refine then_normal ?_ | refine WP_skip ?_ | refine WP_block ?_ | (refine g_move ?_; refine st_move rfl ?_) | (refine g_assign ?_; refine st_assign rfl ?_) | (refine g_b_lss ?_; refine st_val rfl (r_lss rfl rfl) ?_) | (refine WP_cond rfl (fun h => ?_) (fun h => ?_) <;> (fail_if_success (have hh : true = true := h)) <;> (fail_if_success (have hh : false = false := h)) <;> (try simp only [decide_eq_true_eq, decide_eq_false_iff_not, Bool.not_eq_true', Bool.not_eq_false', Int.not_lt, Int.not_le] at h) <;> (try (exfalso; omega))))
    refine st_valE rfl (r_litF (D := fInt .i64) [i] (Value.int .i64) S rfl rfl (fun _ => rfl) rfl (by decide) (by decide)) ?_
    rintro _ w ⟨bl, rfl, -, hcl, S'⟩; replace S := S'; clear S'
    refine st_valE rfl (r_append1 (D := fInt .i64) (i := 6) (b := bl) (x := i) S rfl rfl rfl (fl_one hcl) rfl (by decide) (of_decide_eq_true rfl) (by omega) (by omega)) ?_
    rintro vt' w ⟨-, S'⟩; replace S := S'; clear S' hcl
    rw [tab_id_take (n := sp.length) hi0 hi] at S
    repeat' (first | refine WP_region ?_ | refine wl_nil ?_ | refine then_normal ?_ | refine inB_normal ?_ | (refine g_move ?_; refine st_move rfl ?_) | (refine g_assign ?_; refine st_assign rfl ?_) | (refine g_b_add ?_; (refine st_val rfl (r_addN rfl rfl ?_ ?_) ?_; (first | omega | (simp <;> omega)); (first | omega | (simp <;> omega)))))
    refine ⟨⟨_, ?_, i + 1, vt', ⟨rfl, rfl, rfl, rfl, rfl, rfl, trivial⟩, S.keep [true, true, true, true, true, true, true, true], by omega, by omega, rfl⟩⟩
    omega
  have hin : i.toNat = sp.length := by omega
  rw [hin] at S
  repeat' (first | refine WP_seq ?_ | refine WP_region ?_ | refine wl_nil ?_ | refine then_normal ?_ | refine then_exit ?_ | refine inB_here ?_ | refine WP_exit ?_ | (refine g_move ?_; refine st_move rfl ?_) | (refine g_b_lss ?_; refine st_val rfl (r_lss rfl rfl) ?_) | (refine g_makeFunc ?_; refine st_val rfl (r_makeFn1 rfl) ?_) | (refine WP_cond rfl (fun h => ?_) (fun h => ?_) <;> (fail_if_success (have hh : true = true := h)) <;> (fail_if_success (have hh : false = false := h)) <;> (try simp only [decide_eq_true_eq, decide_eq_false_iff_not, Bool.not_eq_true', Bool.not_eq_false', Int.not_lt, Int.not_le] at h) <;> (try (exfalso; omega))))
  replace S : St w0 w1 (rowT vt idf sp.length :: .var bs 23 [.slice A2 sp.length c2] :: [mapOb eI eC b1 (cM l), mapOb eP eB b2 [], mapOb eI eI b3 [], mapOb eD eI b4 [], .var bt 142 [.map (some b1), .map (some b2), .map (some b3), .map (some b4)], rowOb (fInt .i64) 3 (.slice none 0 0) []]) := S.perm (List.perm_middle (l₁ := [_, _, _, _, _, _]))
  refine st_callW rfl (r_call2 rfl rfl rfl) (sort_run S hr2 rfl (by omega)) ?_
  rintro u w ⟨g, hgp, hgw, S'⟩
  replace S := S'; clear S'
  obtain ⟨turn, ht⟩ : ∃ turn, tab g sp.length = turn := ⟨_, rfl⟩
  have hO : Ord sp turn := ⟨by rw [← ht]; exact hgp, by rw [← ht]; exact hgw⟩
  replace S : St w0 w [rowOb (fInt .i64) 3 vt turn, .var bs 23 [.slice A2 sp.length c2], mapOb eI eC b1 (cM l), mapOb eP eB b2 [], mapOb eI eI b3 [], mapOb eD eI b4 [], .var bt 142 [.map (some b1), .map (some b2), .map (some b3), .map (some b4)], rowOb (fInt .i64) 3 (.slice none 0 0) []] := by rw [← ht]; exact S
  have hOl := hO.len
  obtain ⟨A3, c3, hz⟩ := (S.rdRow (D := fInt .i64) (i := 0) rfl).len; subst hz
  repeat' (first | refine WP_seq ?_ | refine WP_region ?_ | refine wl_nil ?_ | refine then_normal ?_ | refine WP_block ?_ | (refine g_move ?_; refine st_move rfl ?_) | (refine g_c_len ?_; refine st_val rfl (r_lenSlice rfl) ?_))
  refine WP_loop (fun k σ w1 => ∃ (i : Int) (vo : Value) (Sp : List (GSpot × Bool)) (Mn : List (Int × Int)) (Dy : List (GDay × Int)) (out : List Int), Has σ [(3, .pointer (some ⟨bs, 0, none⟩)), (7, .pointer (some ⟨bt, 0, none⟩)), (11, vo), (57, .slice A3 turn.length c3), (58, .int .i64 turn.length), (59, .int .i64 i)] ∧ St w0 w1 [rowOb (fInt .i64) 3 (.slice A3 turn.length c3) turn, .var bs 23 [.slice A2 sp.length c2], mapOb eI eC b1 (cM l), mapOb eP eB b2 Sp, mapOb eI eI b3 Mn, mapOb eD eI b4 Dy, .var bt 142 [.map (some b1), .map (some b2), .map (some b3), .map (some b4)], rowOb (fInt .i64) 3 vo out] ∧ 0 ≤ i ∧ i ≤ turn.length ∧ out = outOf l sp (turn.take i.toNat) ∧ Tal l (spAt sp out) (cM l) Sp Mn Dy ∧ k = turn.length - i.toNat) turn.length ⟨0, _, [], [], [], [], ⟨rfl, rfl, rfl, rfl, rfl, rfl, trivial⟩, S, by omega, by omega, rfl, Tal.start, by omega⟩ ?_
  clear S hs
  rintro k σ w1 ⟨i, vo, Sp, Mn, Dy, out, hs, S, hi0, hi1, hout, hT, hk⟩
  refine WP_has hs ?_
  have hol : out.length ≤ 60 := by
    have := outOf_len (l := l) (sp := sp) (turn.take i.toNat)
    rw [List.length_take] at this; rw [hout]; omega
  have hmem : ∀ s ∈ spAt sp out, s ∈ sp := by
    rw [hout]; exact spAt_mem fun x hx => hO.mem (List.mem_of_mem_take hx)
  have hsl : (spAt sp out).length ≤ 60 := by unfold spAt; rw [List.length_map]; exact hol
  by_cases hi : i < turn.length
  · obtain ⟨j, hj⟩ : ∃ j, nth turn i = j := ⟨_, rfl⟩
    have hjr := hO.mem (nth_mem hi0 hi)
    rw [hj] at hjr
    obtain ⟨x, hx⟩ : ∃ x, nth sp j = x := ⟨_, rfl⟩
    have hxs : x ∈ sp := by rw [← hx]; exact nth_mem hjr.1 hjr.2
    have hxr := validP_at h2 hxs
    have hsr : ∀ s ∈ Sp, 0 ≤ s.1.At ∧ s.1.At ≤ 9999999 := by
      intro s hs
      rw [hT.s] at hs
      obtain ⟨y, hy, rfl⟩ := List.mem_map.1 hs
      exact (validP_at h2 (hmem y hy)).2.2
    have hr := hT.rsn x
    have hstep : outOf l sp (turn.take (i + 1).toNat) = if rsn l (spAt sp out) x = 0 then out ++ [j] else out := by
      rw [foldl_at hi0 hi, hj, ← hout]; unfold stepO; rw [hx]
    subst hx
    subst hj
    have hcm := hT.m (nth sp (nth turn i)).Contract
    have hcr := @cntC_le (spAt sp out) (nth sp (nth turn i)).Contract
    have hcd := hT.d (onD (nth sp (nth turn i)))
    have hdr := @cntD_le (spAt sp out) (onD (nth sp (nth turn i)))
    by_cases h0 : rsn l (spAt sp out) (nth sp (nth turn i)) = 0
    · rw [h0] at hr
      rw [if_pos h0] at hstep
      repeat' (first | refine WP_seq ?_ | refine WP_region ?_ | refine wl_nil ?_ | refine then_normal ?_ | refine WP_skip ?_ | refine WP_block ?_ | refine WP_condT rfl ?_ | refine WP_drawTail 5 (by kernel_rfl) (by decide +kernel) ?_ | refine WP_drawTail 8 (by kernel_rfl) (by decide +kernel) ?_ | (refine ql_nil ?_; intro w hb; replace S := S.grow hb; clear hb) | (refine g_move ?_; refine st_move rfl ?_) | (refine g_assign ?_; refine st_assign rfl ?_) | (refine g_b_eql ?_; refine st_val rfl (r_eql rfl rfl) ?_) | (refine g_b_lss ?_; refine st_val rfl (r_lss rfl rfl) ?_) | (refine g_indexAddr ?_; first | (refine st_val rfl (r_indexAddr (hr2.mono S.below) rfl rfl ?_ ?_) ?_; (first | omega | (simp <;> omega)); (first | omega | (simp <;> omega))) | (refine st_val rfl (r_indexAddr (S.rdRow (D := (fInt .i64)) (i := 0) rfl) rfl rfl ?_ ?_) ?_; (first | omega | (simp <;> omega)); (first | omega | (simp <;> omega)))) | (refine g_load ?_; first | (refine st_val rfl (r_loadElem (hr2.mono S.below) rfl ?_ ?_) ?_; (first | omega | (simp <;> omega)); (first | omega | (simp <;> omega))) | (refine st_val rfl (r_loadElem1 (S.rdRow (D := (fInt .i64)) (i := 0) rfl) rfl ?_ ?_ rfl) ?_; (first | omega | (simp <;> omega)); (first | omega | (simp <;> omega))) | refine st_val rfl (r_loadVar (i := 1) S rfl rfl rfl) ?_ | refine st_val rfl (r_loadVarA (i := 8) S rfl rfl rfl rfl) ?_) | (refine g_callV ?_; (refine st_callV rfl (r_call2 rfl rfl rfl) (reason_is hr (talAt_of S) (hG.mono S.below) ⟨hxr.2.2.1, hxr.2.2.2⟩ hsr) ?_; intro w hb; replace S := S.grow hb; clear hb)) | (refine gq_move ?_; refine q_move rfl ?_) | (refine gq_b_add ?_; (refine q_val rfl (fun w' hb => r_addN rfl rfl ?_ ?_) ?_; (first | omega | (simp <;> omega)); (first | omega | (simp <;> omega)))) | (refine gq_nilCheck ?_; refine q_val rfl (fun w' hb => r_nilCheck rfl) ?_) | (refine gq_fieldAddr ?_; refine q_val rfl (fun w' hb => r_fieldAddrL rfl) ?_) | (refine gq_load ?_; first | refine q_val rfl (fun w' hb => r_loadVar (i := 6) (S.grow hb) rfl rfl rfl) ?_ | refine q_val rfl (fun w' hb => r_loadVar (i := 8) (S.grow hb) rfl rfl rfl) ?_ | refine q_val rfl (fun w' hb => r_loadVarA (i := 8) (S.grow hb) rfl rfl rfl rfl) ?_) | (refine g_alloc ?_; refine st_valE rfl (r_alloc S) ?_; rintro _ w ⟨b, rfl, -, S'⟩; replace S := S'; clear S') | (refine g_store ?_; first | (refine st_skipE rfl (r_storeVar (i := 0) S rfl rfl rfl rfl (of_decide_eq_true rfl) (of_decide_eq_true rfl)) ?_; intro w S'; replace S := S'; clear S') | (refine st_skipE rfl (r_storeVar (i := 1) S rfl rfl rfl rfl (of_decide_eq_true rfl) (of_decide_eq_true rfl)) ?_; intro w S'; replace S := S'; clear S') | (refine st_skipE rfl (r_storeVar (i := 2) S rfl rfl rfl rfl (of_decide_eq_true rfl) (of_decide_eq_true rfl)) ?_; intro w S'; replace S := S'; clear S') | (refine st_skipE rfl (r_storeVar (i := 3) S rfl rfl rfl rfl (of_decide_eq_true rfl) (of_decide_eq_true rfl)) ?_; intro w S'; replace S := S'; clear S') | (refine st_skipE rfl (r_storeVar (i := 4) S rfl rfl rfl rfl (of_decide_eq_true rfl) (of_decide_eq_true rfl)) ?_; intro w S'; replace S := S'; clear S') | (refine st_skipE rfl (r_storeVar (i := 5) S rfl rfl rfl rfl (of_decide_eq_true rfl) (of_decide_eq_true rfl)) ?_; intro w S'; replace S := S'; clear S') | (refine st_skipE rfl (r_storeVar (i := 6) S rfl rfl rfl rfl (of_decide_eq_true rfl) (of_decide_eq_true rfl)) ?_; intro w S'; replace S := S'; clear S') | (refine st_skipE rfl (r_storeVar (i := 7) S rfl rfl rfl rfl (of_decide_eq_true rfl) (of_decide_eq_true rfl)) ?_; intro w S'; replace S := S'; clear S') | (refine st_skipE rfl (r_storeVar (i := 8) S rfl rfl rfl rfl (of_decide_eq_true rfl) (of_decide_eq_true rfl)) ?_; intro w S'; replace S := S'; clear S')) | (refine st_skipE rfl (r_mapUpdate (i := 3) (eK := eP) (eV := eB) (k := nth sp (nth turn i)) (v := true) S rfl rfl rfl rfl) ?_; intro w S'; replace S := S'; clear S') | (refine q_val rfl (fun w' hb => r_lookup1D (k := (nth sp (nth turn i)).Contract) (eK := eI) (eV := eI) 0 rfl ((S.grow hb).mapAt (i := 4) rfl) rfl rfl) ?_) | (refine st_skipE rfl (r_mapUpdate (i := 4) (eK := eI) (eV := eI) (k := (nth sp (nth turn i)).Contract) (v := (mGet (nth sp (nth turn i)).Contract Mn).getD 0 + 1) S rfl rfl rfl rfl) ?_; intro w S'; replace S := S'; clear S') | (refine WP_cond rfl (fun h => ?_) (fun h => ?_) <;> (fail_if_success (have hh : true = true := h)) <;> (fail_if_success (have hh : false = false := h)) <;> (try simp only [decide_eq_true_eq, decide_eq_false_iff_not, Bool.not_eq_true', Bool.not_eq_false', Int.not_lt, Int.not_le] at h) <;> (try (exfalso; omega))))
      obtain ⟨x, hx⟩ : ∃ x, nth sp (nth turn i) = x := ⟨_, rfl⟩
      replace S : St w0 w [rowOb (fInt .i64) 3 (.slice A3 turn.length c3) turn, .var bs 23 [.slice A2 sp.length c2], mapOb eI eC b1 (cM l), mapOb eP eB b2 (mPut x true Sp), mapOb eI eI b3 (mPut x.Contract ((mGet x.Contract Mn).getD 0 + 1) Mn), mapOb eD eI b4 Dy, .var bt 142 [.map (some b1), .map (some b2), .map (some b3), .map (some b4)], rowOb (fInt .i64) 3 vo out, .var b 63 x.enc] := by rw [← hx]; exact S
      obtain ⟨dv, hdv⟩ : ∃ dv, (mGet (onD x) Dy).getD 0 = dv := ⟨_, rfl⟩
      refine WP_drawK (fun w' => ∃ Dy', (mGet (onD x) Dy').getD 0 = dv ∧ St w0 w' [rowOb (fInt .i64) 3 (.slice A3 turn.length c3) turn, .var bs 23 [.slice A2 sp.length c2], mapOb eI eC b1 (cM l), mapOb eP eB b2 (mPut x true Sp), mapOb eI eI b3 (mPut x.Contract ((mGet x.Contract Mn).getD 0 + 1) Mn), mapOb eD eI b4 Dy', .var bt 142 [.map (some b1), .map (some b2), .map (some b3), .map (some b4)], rowOb (fInt .i64) 3 vo out, .var b 63 x.enc]) [0, 1, 2, 3, 4] 5 [6, 7] [8, 9] [10] _ rfl (by kernel_rfl) (by decide) (by decide +kernel) (fun w' hb => ⟨Dy, hdv, S.grow hb⟩) ?_
      intro w' hb; replace S := S.grow hb; clear hb
      have hdb : 0 ≤ dv ∧ dv ≤ 60 := by rw [← hdv, ← hx, hcd]; omega
      rw [hx] at h0 hxr
      refine jq_val rfl (fun w' hJ => ⟨rfl⟩) ?_
      refine jq_val rfl (fun w' hJ => r_nilCheck rfl) ?_
      refine jq_val rfl (fun w' hJ => r_fieldAddrL rfl) ?_
      refine jq_val (v := .map (some b4)) rfl (fun w' hJ => by obtain ⟨Dy', hd, S'⟩ := hJ; exact r_loadVar (i := 6) S' rfl rfl rfl) ?_
      refine jq_val (v := .agg x.enc.toArray) rfl (fun w' hJ => by obtain ⟨Dy', hd, S'⟩ := hJ; exact r_loadVarA (i := 8) S' rfl rfl rfl rfl) ?_
      refine jq_nil ?_
      refine kq_callV rfl (r_call1 rfl rfl) (on_spec hxr.2.2.1 hxr.2.2.2) ?_
      intro w2 hb; replace S := S.grow hb; clear hb
      refine ⟨⟨Dy, hdv, S⟩, ?_⟩
      refine jq_val (v := .int .i64 dv) rfl (fun w' hJ => by obtain ⟨Dy', hd, S'⟩ := hJ; rw [← hd]; exact r_lookup1D (k := onD x) (eK := eD) (eV := eI) 0 rfl (S'.mapAt (i := 5) rfl) rfl rfl) ?_
      refine jq_val (v := .int .i64 (dv + 1)) rfl (fun w' hJ => r_addN rfl rfl (by omega) (by omega)) ?_
      refine jq_nil ?_
      refine wj_valE rfl (r_mapEntry (i := 5) (eK := eD) (eV := eI) (k := onD x) 0 S rfl rfl rfl rfl) ?_
      rintro _ w3 ⟨j, y, rfl, hf, S'⟩
      have htg : (mGet (onD x) (mTouch (onD x) 0 Dy)).getD 0 = dv := by rw [touch_get]; exact hdv
      refine ⟨⟨_, htg, S'⟩, ?_⟩
      refine wj_val rfl (r_extract rfl rfl) ⟨_, htg, S'⟩ ?_
      refine wj_nil ?_
      refine st_skipE rfl (r_entryStore (i := 5) (eK := eD) (eV := eI) (k := onD x) (v := dv + 1) S' rfl rfl rfl rfl hf) ?_
      intro w S2
      rw [mTouch_put] at S2
      clear S S' hf
      have S := S2; clear S2
      have hT' := hT.step h0
      rw [hdv] at hT'
      repeat' (first | refine WP_region ?_ | refine wl_nil ?_ | refine then_normal ?_ | (refine g_move ?_; refine st_move rfl ?_))
      refine st_valE rfl (r_litF (D := fInt .i64) [nth turn i] (Value.int .i64) S rfl rfl (fun _ => rfl) rfl (by decide) (by decide)) ?_
      rintro _ w ⟨bl, rfl, -, hcl, S'⟩; replace S := S'; clear S'
      refine st_valE rfl (r_append1 (D := fInt .i64) (i := 7) (b := bl) (x := nth turn i) S rfl rfl rfl (fl_one hcl) rfl (by decide) (of_decide_eq_true rfl) (by omega) (by omega)) ?_
      rintro vo' w ⟨-, S'⟩; replace S := S'; clear S' hcl
      repeat' (first | refine WP_region ?_ | refine wl_nil ?_ | refine then_normal ?_ | refine inB_normal ?_ | (refine g_move ?_; refine st_move rfl ?_) | (refine g_assign ?_; refine st_assign rfl ?_) | (refine g_b_add ?_; (refine st_val rfl (r_addN rfl rfl ?_ ?_) ?_; (first | omega | (simp <;> omega)); (first | omega | (simp <;> omega)))))
      refine ⟨⟨_, ?_, i + 1, vo', _, _, _, _, ⟨rfl, rfl, rfl, rfl, rfl, rfl, trivial⟩, S.keep [true, true, true, true, true, true, true, true], by omega, by omega, hstep.symm, ?_, rfl⟩⟩
      · omega
      · rw [show spAt sp (out ++ [nth turn i]) = spAt sp out ++ [x] by unfold spAt; rw [List.map_append, ← hx]; rfl]
        exact hT'
    · rw [if_neg h0] at hstep
      repeat' (first | refine WP_seq ?_ | refine WP_region ?_ | refine wl_nil ?_ | refine then_normal ?_ | refine inB_normal ?_ | refine WP_skip ?_ | refine WP_block ?_ | (refine g_move ?_; refine st_move rfl ?_) | (refine g_assign ?_; refine st_assign rfl ?_) | (refine g_b_add ?_; (refine st_val rfl (r_addN rfl rfl ?_ ?_) ?_; (first | omega | (simp <;> omega)); (first | omega | (simp <;> omega)))) | (refine g_b_eql ?_; refine st_val rfl (r_eql rfl rfl) ?_) | (refine g_b_lss ?_; refine st_val rfl (r_lss rfl rfl) ?_) | (refine g_indexAddr ?_; first | (refine st_val rfl (r_indexAddr (hr2.mono S.below) rfl rfl ?_ ?_) ?_; (first | omega | (simp <;> omega)); (first | omega | (simp <;> omega))) | (refine st_val rfl (r_indexAddr (S.rdRow (D := (fInt .i64)) (i := 0) rfl) rfl rfl ?_ ?_) ?_; (first | omega | (simp <;> omega)); (first | omega | (simp <;> omega)))) | (refine g_load ?_; first | (refine st_val rfl (r_loadElem (hr2.mono S.below) rfl ?_ ?_) ?_; (first | omega | (simp <;> omega)); (first | omega | (simp <;> omega))) | (refine st_val rfl (r_loadElem1 (S.rdRow (D := (fInt .i64)) (i := 0) rfl) rfl ?_ ?_ rfl) ?_; (first | omega | (simp <;> omega)); (first | omega | (simp <;> omega))) | refine st_val rfl (r_loadVar (i := 1) S rfl rfl rfl) ?_ | refine st_val rfl (r_loadVarA (i := 8) S rfl rfl rfl rfl) ?_) | (refine g_callV ?_; (refine st_callV rfl (r_call2 rfl rfl rfl) (reason_is hr (talAt_of S) (hG.mono S.below) ⟨hxr.2.2.1, hxr.2.2.2⟩ hsr) ?_; intro w hb; replace S := S.grow hb; clear hb)) | (refine g_alloc ?_; refine st_valE rfl (r_alloc S) ?_; rintro _ w ⟨b, rfl, -, S'⟩; replace S := S'; clear S') | (refine g_store ?_; first | (refine st_skipE rfl (r_storeVar (i := 0) S rfl rfl rfl rfl (of_decide_eq_true rfl) (of_decide_eq_true rfl)) ?_; intro w S'; replace S := S'; clear S') | (refine st_skipE rfl (r_storeVar (i := 1) S rfl rfl rfl rfl (of_decide_eq_true rfl) (of_decide_eq_true rfl)) ?_; intro w S'; replace S := S'; clear S') | (refine st_skipE rfl (r_storeVar (i := 2) S rfl rfl rfl rfl (of_decide_eq_true rfl) (of_decide_eq_true rfl)) ?_; intro w S'; replace S := S'; clear S') | (refine st_skipE rfl (r_storeVar (i := 3) S rfl rfl rfl rfl (of_decide_eq_true rfl) (of_decide_eq_true rfl)) ?_; intro w S'; replace S := S'; clear S') | (refine st_skipE rfl (r_storeVar (i := 4) S rfl rfl rfl rfl (of_decide_eq_true rfl) (of_decide_eq_true rfl)) ?_; intro w S'; replace S := S'; clear S') | (refine st_skipE rfl (r_storeVar (i := 5) S rfl rfl rfl rfl (of_decide_eq_true rfl) (of_decide_eq_true rfl)) ?_; intro w S'; replace S := S'; clear S') | (refine st_skipE rfl (r_storeVar (i := 6) S rfl rfl rfl rfl (of_decide_eq_true rfl) (of_decide_eq_true rfl)) ?_; intro w S'; replace S := S'; clear S') | (refine st_skipE rfl (r_storeVar (i := 7) S rfl rfl rfl rfl (of_decide_eq_true rfl) (of_decide_eq_true rfl)) ?_; intro w S'; replace S := S'; clear S') | (refine st_skipE rfl (r_storeVar (i := 8) S rfl rfl rfl rfl (of_decide_eq_true rfl) (of_decide_eq_true rfl)) ?_; intro w S'; replace S := S'; clear S')) | (refine WP_cond rfl (fun h => ?_) (fun h => ?_) <;> (fail_if_success (have hh : true = true := h)) <;> (fail_if_success (have hh : false = false := h)) <;> (try simp only [decide_eq_true_eq, decide_eq_false_iff_not, Bool.not_eq_true', Bool.not_eq_false', Int.not_lt, Int.not_le] at h) <;> (try (exfalso; omega))))
      refine ⟨⟨_, ?_, i + 1, vo, Sp, Mn, Dy, out, ⟨rfl, rfl, rfl, rfl, rfl, rfl, trivial⟩, S.keep [true, true, true, true, true, true, true, true], by omega, by omega, hstep.symm, hT, rfl⟩⟩
      omega
  repeat' (first | refine WP_seq ?_ | refine WP_region ?_ | refine wl_nil ?_ | refine then_normal ?_ | refine then_exit ?_ | refine inB_here ?_ | refine WP_ret ?_ | refine WP_exit ?_ | (refine g_move ?_; refine st_move rfl ?_) | (refine g_assign ?_; refine st_assign rfl ?_) | (refine g_b_lss ?_; refine st_val rfl (r_lss rfl rfl) ?_) | (refine WP_cond rfl (fun h => ?_) (fun h => ?_) <;> (fail_if_success (have hh : true = true := h)) <;> (fail_if_success (have hh : false = false := h)) <;> (try simp only [decide_eq_true_eq, decide_eq_false_iff_not, Bool.not_eq_true', Bool.not_eq_false', Int.not_lt, Int.not_le] at h) <;> (try (exfalso; omega))))
  have hit : i.toNat = turn.length := by omega
  rw [hit, List.take_length] at hout
  subst hout
  exact end3 rfl rfl rfl rfl ⟨_, rfl, S.below, bt, b1, b2, b3, b4, Sp, Mn, Dy, vo, turn, hO, rfl, hT, S.keep [false, false, true, true, true, true, true, true]⟩
end Go.Proofs.YtijnbpnficcpmaaDoor
namespace Go.Proofs.YtijnbpnficcpmaaDoor
open Go Go.Gx Go.RowKit
set_option linter.unusedVariables false
set_option linter.unusedSimpArgs false

/-- A number set behind those that are not greater. -/
def insO (sp : List GSpot) (out : List Int) (i : Int) : List Int := out.takeWhile (fun e => !cS sp i e) ++ i :: out.dropWhile (fun e => !cS sp i e)
def ordN (sp : List GSpot) : Nat → List Int
  | 0 => []
  | n + 1 => insO sp (ordN sp n) n
def ordI (sp : List GSpot) : List Int := ordN sp sp.length
theorem sorted_drop {c : Int → Int → Bool} (hc : SW c) {i : Int} : ∀ {l : List Int}, l.Pairwise (RS c) → (∀ y ∈ l, y < i) → ∀ b ∈ l.dropWhile (fun e => !c i e), c i b = true
  | [], _, _, b, hb => by cases hb
  | x :: l, hp, hlt, b, hb => by
    rw [List.dropWhile_cons] at hb
    cases hx : c i x with
    | false =>
      rw [hx] at hb
      simp only [Bool.not_false, if_true] at hb
      exact sorted_drop hc (List.pairwise_cons.1 hp).2 (fun y hy => hlt y (List.mem_cons_of_mem _ hy)) b hb
    | true =>
      rw [hx] at hb
      simp only [Bool.not_true, Bool.false_eq_true, if_false] at hb
      rcases List.mem_cons.1 hb with rfl | hb
      · exact hx
      · rcases (List.pairwise_cons.1 hp).1 b hb with h | ⟨h, _⟩
        · exact hc.trans _ _ _ hx h
        · cases e : c i b with
          | true => rfl
          | false => have := hc.ntrans _ _ _ e h; rw [hx] at this; cases this
theorem takeWhile_last {c : Int → Bool} {l : List Int} {A' : List Int} {y : Int} (h : l.takeWhile (fun e => !c e) = A' ++ [y]) : c y = false := by
  have hm : y ∈ l.takeWhile (fun e => !c e) := by rw [h]; simp
  have h2 : ∀ x ∈ l.takeWhile (fun e => !c e), (!c x) = true := by
    intro x hx
    have := List.all_takeWhile (p := fun e => !c e) (l := l)
    exact List.all_eq_true.1 this x hx
  have := h2 y hm
  simpa using this
theorem ordN_ok (sp : List GSpot) : ∀ n, (ordN sp n).Perm (tab idf n) ∧ (ordN sp n).Pairwise (RS (cS sp))
  | 0 => ⟨List.Perm.refl _, List.Pairwise.nil⟩
  | n + 1 => by
    obtain ⟨hp, hw⟩ := ordN_ok sp n
    have hlt : ∀ y ∈ ordN sp n, y < (n : Int) := fun y hy => by
      have := hp.mem_iff.1 hy
      unfold tab at this
      obtain ⟨k, hk, rfl⟩ := List.mem_map.1 this
      have := List.mem_range.1 hk; simp only [idf]; omega
    have e : (ordN sp n).takeWhile (fun e => !cS sp n e) ++ (ordN sp n).dropWhile (fun e => !cS sp n e) = ordN sp n := List.takeWhile_append_dropWhile
    refine ⟨?_, ?_⟩
    · show (insO sp (ordN sp n) n).Perm _
      unfold insO
      refine List.perm_middle.trans ?_
      have et : tab idf (n + 1) = tab idf n ++ [(n : Int)] := by unfold tab; rw [List.range_succ, List.map_append]; rfl
      rw [e, et]
      exact (List.perm_append_singleton _ _).symm.trans (hp.append_right _)
    · show (insO sp (ordN sp n) n).Pairwise _
      unfold insO
      refine put_fits (cS_sw sp) (by rw [e]; exact hw) (by rw [e]; exact hlt) (fun A' y h => takeWhile_last h) (sorted_drop (cS_sw sp) hw hlt)
theorem ordI_ok (sp : List GSpot) : Ord sp (ordI sp) := ⟨(ordN_ok sp sp.length).1, (ordN_ok sp sp.length).2⟩
theorem Ord.eq {sp : List GSpot} {t : List Int} (h : Ord sp t) : t = ordI sp := h.uniq (ordI_ok sp)
/-- The spots that count, by their numbers. -/
def cntI (l : List GContract) (sp : List GSpot) : List Int := outOf l sp (ordI sp)
abbrev cntS (l : List GContract) (sp : List GSpot) : List GSpot := spAt sp (cntI l sp)
theorem cntI_mem {l : List GContract} {sp : List GSpot} {x : Int} (hx : x ∈ cntI l sp) : 0 ≤ x ∧ x < sp.length := (ordI_ok sp).mem (outOf_mem hx)
theorem cntI_len (l : List GContract) (sp : List GSpot) : (cntI l sp).length ≤ sp.length := by
  have := outOf_len (l := l) (sp := sp) (ordI sp); rw [(ordI_ok sp).len] at this; exact this
theorem cntS_mem {l : List GContract} {sp : List GSpot} {s : GSpot} (hs : s ∈ cntS l sp) : s ∈ sp := spAt_mem (fun x hx => (ordI_ok sp).mem hx) s hs
def okI (l : List GContract) (sp : List GSpot) : Bool := validC l && validP sp
def countedI (l : List GContract) (sp : List GSpot) : List Int × Int := if okI l sp then (cntI l sp, 0) else ([], 120)
def reasonI (l : List GContract) (sp : List GSpot) (x : GSpot) : Int × Int := if okI l sp && okP x then (rsn l (cntS l sp) x, 0) else (0, 120)
def mayI (l : List GContract) (sp : List GSpot) (t : Int) : List Int × Int := if okI l sp && inR t 0 9999999 then ((l.filter fun c => decide (rsn l (cntS l sp) ⟨c.ID, t⟩ = 0)).map fun c => c.ID, 0) else ([], 120)
def missI (cnt : List GSpot) (now : Int) (c : GContract) : Int := if c.Window.To ≤ now then c.Count - cntC cnt c.ID else 0
def missingI (l : List GContract) (sp : List GSpot) (now : Int) : List Int × Int := if okI l sp && inR now 0 10000000 then (l.map (missI (cntS l sp) now), 0) else ([], 120)
theorem good_is {x : GSpot} {b : Bool} {w0 : World} (h : okP x = b) : CallsV Tryd.prog 78 #[.agg x.enc.toArray] w0 (.bool b) := by rw [← h]; exact good_spec
theorem btw_is {n lo hi : Int} {b : Bool} {w0 : World} (h : inR n lo hi = b) : CallsV Tryd.prog 99 #[.int .i64 n, .int .i64 lo, .int .i64 hi] w0 (.bool b) := by rw [← h]; exact btw_spec
theorem in_is {n lo hi : Int} {b : Bool} {w0 : World} (h : inR n lo hi = b) : CallsV Tryd.prog 102 #[.int .i64 n, .int .i64 lo, .int .i64 hi] w0 (.bool b) := by rw [← h]; exact in_spec
theorem okI_t {l : List GContract} {sp : List GSpot} (h : okI l sp = true) : validC l = true ∧ validP sp = true := Bool.and_eq_true_iff.1 h
theorem okI_f {l : List GContract} {sp : List GSpot} (h : okI l sp = false) : ¬ (validC l = true ∧ validP sp = true) := fun e => by
  unfold okI at h; rw [e.1, e.2] at h; cases h
/-- The answer of a function with a row and an error. -/
abbrev RowE (w0 : World) (r : List Int × Int) (v : Value) (w' : World) : Prop := ∃ vo, v = .tuple #[vo, .int .i64 r.2] ∧ NewRow (fInt .i64) 3 w0 w' vo r.1
abbrev talO (bt b1 b2 b3 b4 : Nat) (l : List GContract) (Sp : List (GSpot × Bool)) (Mn : List (Int × Int)) (Dy : List (GDay × Int)) (vo : Value) (out : List Int) : List Ob :=
  [mapOb eI eC b1 (cM l), mapOb eP eB b2 Sp, mapOb eI eI b3 Mn, mapOb eD eI b4 Dy, .var bt 142 [.map (some b1), .map (some b2), .map (some b3), .map (some b4)], rowOb (fInt .i64) 3 vo out]
theorem talO_at {w0 w : World} {bt b1 b2 b3 b4 : Nat} {l : List GContract} {Sp : List (GSpot × Bool)} {Mn : List (Int × Int)} {Dy : List (GDay × Int)} {vo : Value} {out : List Int} {os : List Ob} (S : St w0 w (talO bt b1 b2 b3 b4 l Sp Mn Dy vo out ++ os)) : TalAt w bt b1 b2 b3 b4 (cM l) Sp Mn Dy :=
  ⟨S.var (i := 4) rfl, S.mapAt (i := 0) rfl, S.mapAt (i := 1) rfl, S.mapAt (i := 2) rfl, S.mapAt (i := 3) rfl⟩
theorem count_run {l : List GContract} {sp : List GSpot} {v1 v2 : Value} {w0 : World} (hr1 : Rd fGContract.ty w0 v1 l) (hr2 : Rd fGSpot.ty w0 v2 sp) (h : okI l sp = true) (hG : TblAt w0) :
    CallsR Tryd.prog 66 #[v1, v2] w0 (fun r w' => ∃ (bt b1 b2 b3 b4 : Nat) (Sp : List (GSpot × Bool)) (Mn : List (Int × Int)) (Dy : List (GDay × Int)) (vo : Value), r = .tuple #[.pointer (some ⟨bt, 0, none⟩), vo, .int .i64 0] ∧ Tal l (cntS l sp) (cM l) Sp Mn Dy ∧ St w0 w' (talO bt b1 b2 b3 b4 l Sp Mn Dy vo (cntI l sp))) := by
  obtain ⟨h1, h2⟩ := okI_t h
  refine callsR_mono (count_ok hr1 hr2 h1 h2 hG) ?_
  rintro v w' ⟨bt, b1, b2, b3, b4, Sp, Mn, Dy, vo, turn, hO, rfl, hT, S⟩
  have e := hO.eq
  subst e
  exact ⟨bt, b1, b2, b3, b4, Sp, Mn, Dy, vo, rfl, hT, S⟩
theorem counted_run {l : List GContract} {sp : List GSpot} {v1 v2 : Value} {w0 : World} (hr1 : Rd fGContract.ty w0 v1 l) (hr2 : Rd fGSpot.ty w0 v2 sp) (hl : l.length ≤ 1000000000) (hl2 : sp.length ≤ 1000000000) (hG : TblAt w0) :
    CallsR Tryd.prog 33 #[v1, v2] w0 (RowE w0 (countedI l sp)) := by
  have S := St.start w0
  refine CallsR.mk ?_
  refine calls_enter Tryd.func33 rfl (by intro _ h; first | exact nomatch h.1 | (obtain ⟨_, h, _⟩ := h; exact nomatch h)) Tryd.ntmps33 rfl ?_
  cases h : okI l sp with
  | false =>
    repeat' (first | refine WP_seq ?_ | refine WP_region ?_ | refine wl_nil ?_ | refine then_normal ?_ | refine WP_ret ?_ | (refine g_move ?_; refine st_move rfl ?_) | (refine g_assign ?_; refine st_assign rfl ?_) | (refine g_extract ?_; refine st_val rfl (r_extract rfl rfl) ?_) | (refine g_callV ?_; (refine st_callV rfl (r_call2 rfl rfl rfl) (count_no (hr1.mono S.below) (hr2.mono S.below) hl hl2 (okI_f h)) ?_; intro w hb; replace S := S.grow hb; clear hb)))
    exact end2 rfl rfl rfl ⟨_, rfl, S.below, _, by unfold countedI; rw [h]; rfl, by unfold countedI; rw [h]; exact NewRow.nil _ _ _ _⟩
  | true =>
    repeat' (first | refine WP_seq ?_ | refine WP_region ?_ | refine wl_nil ?_ | refine then_normal ?_ | (refine g_move ?_; refine st_move rfl ?_) | (refine g_assign ?_; refine st_assign rfl ?_))
    refine st_callR rfl (r_call2 rfl rfl rfl) (count_run (hr1.mono S.below) (hr2.mono S.below) h (hG.mono S.below)) ?_
    rintro _ w hb ⟨bt, b1, b2, b3, b4, Sp, Mn, Dy, vo, rfl, hT, S'⟩
    replace S := S.join S'; clear S'
    repeat' (first | refine WP_seq ?_ | refine WP_region ?_ | refine wl_nil ?_ | refine then_normal ?_ | refine WP_ret ?_ | (refine g_move ?_; refine st_move rfl ?_) | (refine g_assign ?_; refine st_assign rfl ?_) | (refine g_extract ?_; refine st_val rfl (r_extract rfl rfl) ?_))
    exact end2 rfl rfl rfl ⟨_, rfl, S.below, vo, by unfold countedI; rw [h]; rfl, by unfold countedI; rw [h]; exact S.row (i := 5) rfl⟩
theorem inR_t {n lo hi : Int} (h : inR n lo hi = true) : lo ≤ n ∧ n ≤ hi := of_decide_eq_true h
theorem tal_sr {l : List GContract} {sp : List GSpot} {C : List (Int × GContract)} {Sp : List (GSpot × Bool)} {Mn : List (Int × Int)} {Dy : List (GDay × Int)} (h : okI l sp = true) (hT : Tal l (cntS l sp) C Sp Mn Dy) : ∀ s ∈ Sp, 0 ≤ s.1.At ∧ s.1.At ≤ 9999999 := by
  intro s hs
  rw [hT.s] at hs
  obtain ⟨y, hy, rfl⟩ := List.mem_map.1 hs
  exact (validP_at (okI_t h).2 (cntS_mem hy)).2.2
theorem take_filter {p : GContract → Bool} {l : List GContract} {i : Int} (h0 : 0 ≤ i) (hi : i < l.length) : ((l.take (i + 1).toNat).filter p).map (fun c => c.ID) = ((l.take i.toNat).filter p).map (fun c => c.ID) ++ (if p (nth l i) then [(nth l i).ID] else []) := by
  rw [show (i + 1).toNat = i.toNat + 1 by omega, List.take_add_one, nth_get h0 hi, Option.toList_some, List.filter_append, List.map_append]
  congr 1
  cases h : p (nth l i) with
  | true => simp [h]
  | false => simp [h]
theorem take_map {f : GContract → Int} {l : List GContract} {i : Int} (h0 : 0 ≤ i) (hi : i < l.length) : (l.take (i + 1).toNat).map f = (l.take i.toNat).map f ++ [f (nth l i)] := by
  rw [show (i + 1).toNat = i.toNat + 1 by omega, List.take_add_one, nth_get h0 hi, Option.toList_some, List.map_append]; rfl
def mayP (l : List GContract) (sp : List GSpot) (t : Int) (c : GContract) : Bool := decide (rsn l (cntS l sp) ⟨c.ID, t⟩ = 0)
end Go.Proofs.YtijnbpnficcpmaaDoor
namespace Go.Proofs.YtijnbpnficcpmaaDoor
open Go Go.Gx Go.RowKit
set_option linter.unusedVariables false
set_option linter.unusedSimpArgs false

def findI (l : List GContract) (id : Int) : Int := idxF (fun c => decide (c.ID = id)) l
theorem find_cases (l : List GContract) (id : Int) : (findI l id = -1 ∧ cFind l id = none) ∨ (0 ≤ findI l id ∧ findI l id < l.length ∧ cFind l id = some (nth l (findI l id))) := by
  unfold findI idxF cFind
  cases h : l.findIdx? fun c => decide (c.ID = id) with
  | none =>
    left
    refine ⟨rfl, ?_⟩
    rw [List.find?_eq_none]
    intro c hc
    have := List.findIdx?_eq_none_iff.1 h c hc
    rw [this]; decide
  | some i =>
    right
    obtain ⟨hlt, hp, hall⟩ := List.findIdx?_eq_some_iff_getElem.1 h
    refine ⟨by simp only; omega, by simp only; omega, ?_⟩
    have h1 := nth_get (l := l) (i := (i : Int)) (by omega) (by omega)
    rw [Int.toNat_natCast, List.getElem?_eq_getElem hlt] at h1
    rw [List.find?_eq_some_iff_getElem]
    have e := Option.some.inj h1
    refine ⟨by rw [← e]; exact hp, i, hlt, by rw [← e], fun j hj => ?_⟩
    have := hall j hj
    simpa using this
theorem find_spec {v : Value} {l : List GContract} {id : Int} {w0 : World} (hr : Rd fGContract.ty w0 v l) (hl : l.length ≤ 1000000000) : CallsV Tryd.prog 31 #[v, .int .i64 id] w0 (.int .i64 (findI l id)) := by
  have S := St.start w0
  obtain ⟨A, c, rfl⟩ := hr.len
  refine CallsV.mk ?_
  refine calls_enter Tryd.func31 rfl (by intro _ h; first | exact nomatch h.1 | (obtain ⟨_, h, _⟩ := h; exact nomatch h)) Tryd.ntmps31 rfl ?_
  repeat' (first | refine WP_seq ?_ | refine WP_region ?_ | refine wl_nil ?_ | refine then_normal ?_ | refine WP_block ?_ | (refine g_assign ?_; refine st_assign rfl ?_))
  refine WP_loop (fun k σ w1 => ∃ i : Int, Has σ [(0, .slice A l.length c), (1, .int .i64 id), (5, .int .i64 i)] ∧ St w0 w1 [] ∧ 0 ≤ i ∧ i ≤ l.length ∧ (∀ j : Nat, j < i.toNat → ∀ x, l[j]? = some x → decide (x.ID = id) = false) ∧ k = l.length - i.toNat) l.length ⟨0, ⟨rfl, rfl, rfl, trivial⟩, S, by omega, by omega, fun j h => by omega, by omega⟩ ?_
  clear S
  rintro k σ w1 ⟨i, hs, S, hi0, hi1, hno, hk⟩
  refine WP_has hs ?_
  by_cases hi : i < l.length
  · repeat' (first | refine WP_seq ?_ | refine WP_region ?_ | refine wl_nil ?_ | refine then_normal ?_ | refine inB_normal ?_ | refine then_ret ?_ | refine inB_ret ?_ | refine WP_ret ?_ | refine WP_skip ?_ | refine WP_block ?_ | (refine g_move ?_; refine st_move rfl ?_) | (refine g_assign ?_; refine st_assign rfl ?_) | (refine g_b_add ?_; (refine st_val rfl (r_addN rfl rfl ?_ ?_) ?_; (first | omega | (simp <;> omega)); (first | omega | (simp <;> omega)))) | (refine g_b_eql ?_; refine st_val rfl (r_eql rfl rfl) ?_) | (refine g_b_lss ?_; refine st_val rfl (r_lss rfl rfl) ?_) | (refine g_c_len ?_; refine st_val rfl (r_lenSlice rfl) ?_) | (refine g_fieldAddr ?_; refine st_val rfl (r_fieldAddr rfl) ?_) | (refine g_indexAddr ?_; (refine st_val rfl (r_indexAddr (hr.mono S.below) rfl rfl ?_ ?_) ?_; (first | omega | (simp <;> omega)); (first | omega | (simp <;> omega)))) | (refine g_load ?_; (refine st_val rfl (r_loadElem1 (hr.mono S.below) rfl ?_ ?_ rfl) ?_; (first | omega | (simp <;> omega)); (first | omega | (simp <;> omega)))) | (refine WP_cond rfl (fun h => ?_) (fun h => ?_) <;> (fail_if_success (have hh : true = true := h)) <;> (fail_if_success (have hh : false = false := h)) <;> (try simp only [decide_eq_true_eq, decide_eq_false_iff_not, Bool.not_eq_true', Bool.not_eq_false', Int.not_lt, Int.not_le] at h) <;> (try (exfalso; omega))))
    · refine end1 rfl rfl ⟨ri ?_, S.below⟩
      exact (idxF_hit (i := i.toNat) hno (nth_get hi0 hi) (decide_eq_true (by omega)) (by omega)).symm
    · refine ⟨⟨_, ?_, i + 1, ⟨rfl, rfl, rfl, trivial⟩, S, by omega, by omega, fun j hj x hx => ?_, rfl⟩⟩
      · omega
      · by_cases e : j = i.toNat
        · subst e; rw [nth_get hi0 hi] at hx; cases hx; rw [decide_eq_false_iff_not]; omega
        · exact hno j (by omega) x hx
  · repeat' (first | refine WP_seq ?_ | refine WP_region ?_ | refine wl_nil ?_ | refine then_normal ?_ | refine then_exit ?_ | refine inB_here ?_ | refine WP_ret ?_ | refine WP_exit ?_ | (refine g_move ?_; refine st_move rfl ?_) | (refine g_assign ?_; refine st_assign rfl ?_) | (refine g_b_lss ?_; refine st_val rfl (r_lss rfl rfl) ?_) | (refine g_c_len ?_; refine st_val rfl (r_lenSlice rfl) ?_) | (refine WP_cond rfl (fun h => ?_) (fun h => ?_) <;> (fail_if_success (have hh : true = true := h)) <;> (fail_if_success (have hh : false = false := h)) <;> (try simp only [decide_eq_true_eq, decide_eq_false_iff_not, Bool.not_eq_true', Bool.not_eq_false', Int.not_lt, Int.not_le] at h) <;> (try (exfalso; omega))))
    refine end1 rfl rfl ⟨ri ?_, S.below⟩
    refine (idxF_none fun x hx => ?_).symm
    obtain ⟨j, hj⟩ := List.getElem?_of_mem hx
    exact hno j (by have := (List.getElem?_eq_some_iff.1 hj).1; omega) x hj
theorem find_is {v : Value} {l : List GContract} {id z : Int} {w0 : World} (h : findI l id = z) (hr : Rd fGContract.ty w0 v l) (hl : l.length ≤ 1000000000) : CallsV Tryd.prog 31 #[v, .int .i64 id] w0 (.int .i64 z) := by rw [← h]; exact find_spec hr hl
def nearL (l : List GContract) (cnt : List GSpot) (c : GContract) (t : Int) : Bool := cnt.any fun s => nearI ((cFind l s.Contract).getD default) c s t
theorem spAt_len (sp : List GSpot) (out : List Int) : (spAt sp out).length = out.length := by unfold spAt; rw [List.length_map]
theorem spAt_at {sp : List GSpot} {out : List Int} {i : Int} (h0 : 0 ≤ i) (hi : i < out.length) : nth (spAt sp out) i = nth sp (nth out i) := by
  have h1 := nth_get (l := spAt sp out) (i := i) h0 (by rw [spAt_len]; exact hi)
  unfold spAt at h1
  rw [List.getElem?_map, nth_get h0 hi] at h1
  exact (Option.some.inj h1).symm
theorem near_spec {v1 v2 v3 : Value} {l : List GContract} {sp : List GSpot} {out : List Int} {c : GContract} {t : Int} {w0 : World} (hr1 : Rd fGContract.ty w0 v1 l) (hr2 : Rd fGSpot.ty w0 v2 sp) (hr3 : Rd (fInt .i64).ty w0 v3 out) (hl : l.length ≤ 1000000000) (hl2 : sp.length ≤ 1000000000) (hl3 : out.length ≤ 1000000000)
    (ht : 0 ≤ t ∧ t ≤ 9999999) (hsp : ∀ s ∈ sp, 0 ≤ s.At ∧ s.At ≤ 9999999) (ho : ∀ x ∈ out, 0 ≤ x ∧ x < sp.length) (hf : ∀ s ∈ spAt sp out, cFind l s.Contract ≠ none) :
    CallsV Tryd.prog 106 #[v1, v2, v3, .agg c.enc.toArray, .int .i64 t] w0 (.bool (nearL l (spAt sp out) c t)) := by
  have S := St.start w0
  obtain ⟨A, c1, rfl⟩ := hr1.len
  obtain ⟨A2, c2, rfl⟩ := hr2.len
  obtain ⟨A3, c3, rfl⟩ := hr3.len
  refine CallsV.mk ?_
  refine calls_enter Tryd.func106 rfl (by intro _ h; first | exact nomatch h.1 | (obtain ⟨_, h, _⟩ := h; exact nomatch h)) Tryd.ntmps106 rfl ?_
  repeat' (first | refine WP_seq ?_ | refine WP_region ?_ | refine wl_nil ?_ | refine then_normal ?_ | refine WP_block ?_ | (refine g_assign ?_; refine st_assign rfl ?_) | (refine g_box ?_; refine st_valE rfl (r_box S rfl) ?_; rintro _ w ⟨b, rfl, -, S'⟩; replace S := S'; clear S'))
  refine WP_loop (fun k σ w1 => ∃ (i : Int) (bc : Nat), Has σ [(0, .slice A l.length c1), (1, .slice A2 sp.length c2), (2, .slice A3 out.length c3), (4, .int .i64 t), (8, .pointer (some ⟨bc, 0, none⟩)), (11, .int .i64 i)] ∧ St w0 w1 [.var bc 70 c.enc] ∧ 0 ≤ i ∧ i ≤ out.length ∧ (∀ j : Nat, j < i.toNat → ∀ s, (spAt sp out)[j]? = some s → nearI ((cFind l s.Contract).getD default) c s t = false) ∧ k = out.length - i.toNat) out.length ⟨0, _, ⟨rfl, rfl, rfl, rfl, rfl, rfl, trivial⟩, S, by omega, by omega, fun j h => by omega, by omega⟩ ?_
  clear S
  rintro k σ w1 ⟨i, bc, hs, S, hi0, hi1, hno, hk⟩
  refine WP_has hs ?_
  have hsl := spAt_len sp out
  by_cases hi : i < out.length
  · have hor := ho _ (nth_mem hi0 hi)
    have hsr := hsp _ (nth_mem hor.1 hor.2)
    have e := spAt_at (sp := sp) hi0 hi
    have hg : (spAt sp out)[i.toNat]? = some (nth sp (nth out i)) := by rw [← e]; exact nth_get hi0 (by rw [hsl]; exact hi)
    have hfd := hf _ (List.mem_of_getElem? hg)
    obtain ⟨z, hz⟩ : ∃ z, findI l (nth sp (nth out i)).Contract = z := ⟨_, rfl⟩
    have hzc := find_cases l (nth sp (nth out i)).Contract
    rw [hz] at hzc
    rcases hzc with ⟨-, hzc⟩ | ⟨hz0, hz1, hzc⟩
    · exact absurd hzc hfd
    have hd : (cFind l (nth sp (nth out i)).Contract).getD default = nth l z := by rw [hzc]; rfl
    repeat' (first | refine WP_seq ?_ | refine WP_region ?_ | refine wl_nil ?_ | refine then_normal ?_ | refine inB_normal ?_ | refine then_ret ?_ | refine inB_ret ?_ | refine WP_ret ?_ | refine WP_skip ?_ | refine WP_block ?_ | refine WP_condF rfl ?_ | (refine g_guard ?_; refine st_off rfl ?_) | (refine g_move ?_; refine st_move rfl ?_) | (refine g_assign ?_; refine st_assign rfl ?_) | (refine g_pick ?_; first | refine st_pickT rfl rfl ?_ | refine st_pickF rfl rfl ?_) | (refine g_b_add ?_; (refine st_val rfl (r_addN rfl rfl ?_ ?_) ?_; (first | omega | (simp <;> omega)); (first | omega | (simp <;> omega)))) | (refine g_b_sub ?_; (refine st_val rfl (r_subN rfl rfl ?_ ?_) ?_; (first | omega | (simp <;> omega)); (first | omega | (simp <;> omega)))) | (refine g_b_eql ?_; refine st_val rfl (r_eql rfl rfl) ?_) | (refine g_b_neq ?_; refine st_val rfl (r_neq rfl rfl) ?_) | (refine g_b_lss ?_; refine st_val rfl (r_lss rfl rfl) ?_) | (refine g_c_max ?_; refine st_val rfl (r_max2 rfl rfl) ?_) | (refine g_c_len ?_; refine st_val rfl (r_lenSlice rfl) ?_) | (refine g_fieldAddr ?_; refine st_val rfl (r_fieldAddrL rfl) ?_) | (refine g_indexAddr ?_; first | (refine st_val rfl (r_indexAddr (hr1.mono S.below) rfl rfl ?_ ?_) ?_; (first | omega | (simp <;> omega)); (first | omega | (simp <;> omega))) | (refine st_val rfl (r_indexAddr (hr2.mono S.below) rfl rfl ?_ ?_) ?_; (first | omega | (simp <;> omega)); (first | omega | (simp <;> omega))) | (refine st_val rfl (r_indexAddr (hr3.mono S.below) rfl rfl ?_ ?_) ?_; (first | omega | (simp <;> omega)); (first | omega | (simp <;> omega)))) | (refine g_load ?_; first | (refine st_val rfl (r_loadElem (hr1.mono S.below) rfl ?_ ?_) ?_; (first | omega | (simp <;> omega)); (first | omega | (simp <;> omega))) | (refine st_val rfl (r_loadElem (hr2.mono S.below) rfl ?_ ?_) ?_; (first | omega | (simp <;> omega)); (first | omega | (simp <;> omega))) | (refine st_val rfl (r_loadElem1 (hr3.mono S.below) rfl ?_ ?_ rfl) ?_; (first | omega | (simp <;> omega)); (first | omega | (simp <;> omega))) | refine st_val rfl (r_loadVar (i := 0) S rfl rfl rfl) ?_ | refine st_val rfl (r_loadVar (i := 1) S rfl rfl rfl) ?_ | refine st_val rfl (r_loadVar (i := 2) S rfl rfl rfl) ?_) | (refine g_callV ?_; (refine st_callV rfl (r_call2 rfl rfl rfl) (find_is hz (hr1.mono S.below) hl) ?_; intro w hb; replace S := S.grow hb; clear hb)) | (refine g_alloc ?_; refine st_valE rfl (r_alloc S) ?_; rintro _ w ⟨b, rfl, -, S'⟩; replace S := S'; clear S') | (refine g_store ?_; first | (refine st_skipE rfl (r_storeVar (i := 0) S rfl rfl rfl rfl (of_decide_eq_true rfl) (of_decide_eq_true rfl)) ?_; intro w S'; replace S := S'; clear S') | (refine st_skipE rfl (r_storeVar (i := 1) S rfl rfl rfl rfl (of_decide_eq_true rfl) (of_decide_eq_true rfl)) ?_; intro w S'; replace S := S'; clear S') | (refine st_skipE rfl (r_storeVar (i := 2) S rfl rfl rfl rfl (of_decide_eq_true rfl) (of_decide_eq_true rfl)) ?_; intro w S'; replace S := S'; clear S')) | (refine wl_split rfl rfl (fun h => ?_) (fun h => ?_) <;> (fail_if_success (have hh : true = true := h)) <;> (fail_if_success (have hh : false = false := h)) <;> (try simp only [decide_eq_true_eq, decide_eq_false_iff_not, Bool.not_eq_true', Bool.not_eq_false', Int.not_lt, Int.not_le] at h) <;> (try (exfalso; omega))) | (refine WP_cond rfl (fun h => ?_) (fun h => ?_) <;> (fail_if_success (have hh : true = true := h)) <;> (fail_if_success (have hh : false = false := h)) <;> (try simp only [decide_eq_true_eq, decide_eq_false_iff_not, Bool.not_eq_true', Bool.not_eq_false', Int.not_lt, Int.not_le] at h) <;> (try (exfalso; omega))))
    all_goals first
      | (refine end1 rfl rfl ⟨rb ?_, S.below⟩
         symm; refine List.any_eq_true.2 ⟨_, List.mem_of_getElem? hg, ?_⟩
         rw [hd]; unfold nearI; rw [decide_eq_true_eq]; exact ⟨by omega, by omega, by omega⟩)
      | (refine ⟨⟨_, ?_, i + 1, _, ⟨rfl, rfl, rfl, rfl, rfl, rfl, trivial⟩, S.keep [true], by omega, by omega, fun j hj s e' => ?_, rfl⟩⟩
         · omega
         · by_cases e2 : j = i.toNat
           · subst e2; rw [hg] at e'; cases e'
             rw [hd]; unfold nearI; rw [decide_eq_false_iff_not]
             rintro ⟨q1, q2, q3⟩; first | omega | exact absurd q2 (by omega)
           · exact hno j (by omega) s e')
  · repeat' (first | refine WP_seq ?_ | refine WP_region ?_ | refine wl_nil ?_ | refine then_normal ?_ | refine then_exit ?_ | refine inB_here ?_ | refine WP_ret ?_ | refine WP_exit ?_ | (refine g_move ?_; refine st_move rfl ?_) | (refine g_assign ?_; refine st_assign rfl ?_) | (refine g_b_lss ?_; refine st_val rfl (r_lss rfl rfl) ?_) | (refine g_c_len ?_; refine st_val rfl (r_lenSlice rfl) ?_) | (refine WP_cond rfl (fun h => ?_) (fun h => ?_) <;> (fail_if_success (have hh : true = true := h)) <;> (fail_if_success (have hh : false = false := h)) <;> (try simp only [decide_eq_true_eq, decide_eq_false_iff_not, Bool.not_eq_true', Bool.not_eq_false', Int.not_lt, Int.not_le] at h) <;> (try (exfalso; omega))))
    refine end1 rfl rfl ⟨rb ?_, S.below⟩
    symm; unfold nearL; rw [List.any_eq_false]
    intro s hs
    obtain ⟨j, hj⟩ := List.getElem?_of_mem hs
    rw [hno j (by have := (List.getElem?_eq_some_iff.1 hj).1; rw [hsl] at this; omega) s hj]; decide
theorem near_is {v1 v2 v3 : Value} {l : List GContract} {sp : List GSpot} {out : List Int} {c : GContract} {t : Int} {b : Bool} {w0 : World} (hb : nearL l (spAt sp out) c t = b) (hr1 : Rd fGContract.ty w0 v1 l) (hr2 : Rd fGSpot.ty w0 v2 sp) (hr3 : Rd (fInt .i64).ty w0 v3 out) (hl : l.length ≤ 1000000000) (hl2 : sp.length ≤ 1000000000) (hl3 : out.length ≤ 1000000000)
    (ht : 0 ≤ t ∧ t ≤ 9999999) (hsp : ∀ s ∈ sp, 0 ≤ s.At ∧ s.At ≤ 9999999) (ho : ∀ x ∈ out, 0 ≤ x ∧ x < sp.length) (hf : ∀ s ∈ spAt sp out, cFind l s.Contract ≠ none) :
    CallsV Tryd.prog 106 #[v1, v2, v3, .agg c.enc.toArray, .int .i64 t] w0 (.bool b) := by rw [← hb]; exact near_spec hr1 hr2 hr3 hl hl2 hl3 ht hsp ho hf
theorem spAt_take {sp : List GSpot} {out : List Int} {i : Int} (h0 : 0 ≤ i) (hi : i < out.length) : spAt sp (out.take (i + 1).toNat) = spAt sp (out.take i.toNat) ++ [nth sp (nth out i)] := by
  rw [show (i + 1).toNat = i.toNat + 1 by omega, List.take_add_one, nth_get h0 hi]
  unfold spAt; rw [List.map_append]; rfl
theorem inWR_is {k : GWeek} {t : Int} {b : Bool} {w0 : World} (h : inW k t = b) : CallsV Tryd.prog 105 #[.agg k.enc.toArray, .int .i64 t] w0 (.bool b) := by rw [← h]; exact inWR_spec
set_option maxHeartbeats 1000000 in
theorem reasonR_spec {v1 v2 v3 : Value} {l : List GContract} {sp : List GSpot} {out : List Int} {x : GSpot} {w0 : World} (hr1 : Rd fGContract.ty w0 v1 l) (hr2 : Rd fGSpot.ty w0 v2 sp) (hr3 : Rd (fInt .i64).ty w0 v3 out) (hl : l.length ≤ 1000000000) (hl2 : sp.length ≤ 1000000000) (hl3 : out.length ≤ 1000000000)
    (hx : 0 ≤ x.At ∧ x.At ≤ 9999999) (hsp : ∀ s ∈ sp, 0 ≤ s.At ∧ s.At ≤ 9999999) (ho : ∀ x ∈ out, 0 ≤ x ∧ x < sp.length) (hf : ∀ s ∈ spAt sp out, cFind l s.Contract ≠ none) :
    CallsV Tryd.prog 83 #[v1, v2, v3, .agg x.enc.toArray] w0 (.int .i64 (rsn l (spAt sp out) x)) := by
  have S := St.start w0
  obtain ⟨A, c1, rfl⟩ := hr1.len
  obtain ⟨A2, c2, rfl⟩ := hr2.len
  obtain ⟨A3, c3, rfl⟩ := hr3.len
  refine CallsV.mk ?_
  refine calls_enter Tryd.func83 rfl (by intro _ h; first | exact nomatch h.1 | (obtain ⟨_, h, _⟩ := h; exact nomatch h)) Tryd.ntmps83 rfl ?_
  obtain ⟨z, hz⟩ : ∃ z, findI l x.Contract = z := ⟨_, rfl⟩
  have hzc := find_cases l x.Contract
  rw [hz] at hzc
  rcases hzc with ⟨hz0, hzc⟩ | ⟨hz0, hz1, hzc⟩
  · subst hz0
    repeat' (first | refine WP_seq ?_ | refine WP_region ?_ | refine wl_nil ?_ | refine then_normal ?_ | refine then_ret ?_ | refine WP_ret ?_ | refine WP_condT rfl ?_ | (refine g_move ?_; refine st_move rfl ?_) | (refine g_assign ?_; refine st_assign rfl ?_) | (refine g_b_lss ?_; refine st_val rfl (r_lss rfl rfl) ?_) | (refine g_fieldAddr ?_; refine st_val rfl (r_fieldAddrL rfl) ?_) | (refine g_load ?_; refine st_val rfl (r_loadVar (i := 0) S rfl rfl rfl) ?_) | (refine g_callV ?_; (refine st_callV rfl (r_call2 rfl rfl rfl) (find_is hz (hr1.mono S.below) hl) ?_; intro w hb; replace S := S.grow hb; clear hb)) | (refine g_box ?_; refine st_valE rfl (r_box S rfl) ?_; rintro _ w ⟨b, rfl, -, S'⟩; replace S := S'; clear S'))
    exact end1 rfl rfl ⟨ri (by unfold rsn; rw [hzc]), S.below⟩
  obtain ⟨c, hc⟩ : ∃ c, nth l z = c := ⟨_, rfl⟩
  rw [hc] at hzc
  have er : rsn l (spAt sp out) x = if n1 c x then 2 else if n2 c x then 3 else if decide (x ∈ spAt sp out) then 4 else if decide (c.Count ≤ cntC (spAt sp out) x.Contract) then 5 else if decide (c.PerDay ≤ cntD (spAt sp out) (onD x)) then 6 else if nearL l (spAt sp out) c x.At then 7 else 0 := by unfold rsn; rw [hzc]; rfl
  rw [er]; clear er
  subst hc
  repeat' (first | refine WP_seq ?_ | refine WP_region ?_ | refine wl_nil ?_ | refine then_normal ?_ | refine WP_skip ?_ | refine WP_block ?_ | (refine g_move ?_; refine st_move rfl ?_) | (refine g_assign ?_; refine st_assign rfl ?_) | (refine g_b_lss ?_; refine st_val rfl (r_lss rfl rfl) ?_) | (refine g_fieldAddr ?_; refine st_val rfl (r_fieldAddrL rfl) ?_) | (refine g_indexAddr ?_; (refine st_val rfl (r_indexAddr (hr1.mono S.below) rfl rfl ?_ ?_) ?_; (first | omega | (simp <;> omega)); (first | omega | (simp <;> omega)))) | (refine g_load ?_; first | (refine st_val rfl (r_loadElem (hr1.mono S.below) rfl ?_ ?_) ?_; (first | omega | (simp <;> omega)); (first | omega | (simp <;> omega))) | refine st_val rfl (r_loadVar (i := 0) S rfl rfl rfl) ?_) | (refine g_callV ?_; (refine st_callV rfl (r_call2 rfl rfl rfl) (find_is hz (hr1.mono S.below) hl) ?_; intro w hb; replace S := S.grow hb; clear hb)) | (refine g_box ?_; refine st_valE rfl (r_box S rfl) ?_; rintro _ w ⟨b, rfl, -, S'⟩; replace S := S'; clear S') | (refine g_alloc ?_; refine st_valE rfl (r_alloc S) ?_; rintro _ w ⟨b, rfl, -, S'⟩; replace S := S'; clear S') | (refine g_store ?_; first | (refine st_skipE rfl (r_storeVar (i := 0) S rfl rfl rfl rfl (of_decide_eq_true rfl) (of_decide_eq_true rfl)) ?_; intro w S'; replace S := S'; clear S') | (refine st_skipE rfl (r_storeVar (i := 1) S rfl rfl rfl rfl (of_decide_eq_true rfl) (of_decide_eq_true rfl)) ?_; intro w S'; replace S := S'; clear S')) | (refine WP_cond rfl (fun h => ?_) (fun h => ?_) <;> (fail_if_success (have hh : true = true := h)) <;> (fail_if_success (have hh : false = false := h)) <;> (try simp only [decide_eq_true_eq, decide_eq_false_iff_not, Bool.not_eq_true', Bool.not_eq_false', Int.not_lt, Int.not_le] at h) <;> (try (exfalso; omega))))
  refine WP_loop (fun k σ w1 => ∃ (i : Int) (bx bc : Nat) (p q : Int) (tw : Bool), Has σ [(0, .slice A l.length c1), (1, .slice A2 sp.length c2), (2, .slice A3 out.length c3), (7, .pointer (some ⟨bx, 0, none⟩)), (10, .pointer (some ⟨bc, 0, none⟩)), (11, .int .i64 p), (12, .int .i64 q), (13, .bool tw), (14, .int .i64 i)] ∧ St w0 w1 [.var bx 63 x.enc, .var bc 70 (nth l z).enc] ∧ 0 ≤ i ∧ i ≤ out.length ∧ p = cntC (spAt sp (out.take i.toNat)) x.Contract ∧ q = cntD (spAt sp (out.take i.toNat)) (onD x) ∧ tw = decide (x ∈ spAt sp (out.take i.toNat)) ∧ k = out.length - i.toNat) out.length ⟨0, _, _, _, _, _, ⟨rfl, rfl, rfl, rfl, rfl, rfl, rfl, rfl, rfl, trivial⟩, S, by omega, by omega, rfl, rfl, rfl, by omega⟩ ?_
  clear S
  rintro k σ w1 ⟨i, bx, bc, p, q, tw, hs, S, hi0, hi1, hp, hq, htw, hk⟩
  refine WP_has hs ?_
  have hple := @cntC_le (spAt sp (out.take i.toNat)) x.Contract
  have hqle := @cntD_le (spAt sp (out.take i.toNat)) (onD x)
  rw [spAt_len, List.length_take] at hple hqle
  by_cases hi : i < out.length
  · have hor := ho _ (nth_mem hi0 hi)
    have hsr := hsp _ (nth_mem hor.1 hor.2)
    have e := spAt_take (sp := sp) hi0 hi
    have eC := @cntC_snoc (spAt sp (out.take i.toNat)) (nth sp (nth out i)) x.Contract
    have eD := @cntD_snoc (spAt sp (out.take i.toNat)) (nth sp (nth out i)) (onD x)
    rw [← e] at eC eD
    have eT : decide (x ∈ spAt sp (out.take (i + 1).toNat)) = (tw || decide (x = nth sp (nth out i))) := by
      rw [e, htw, ← Bool.decide_or, decide_eq_decide, List.mem_append, List.mem_singleton]
    have xe : (x = nth sp (nth out i)) ↔ (x.Contract = (nth sp (nth out i)).Contract ∧ x.At = (nth sp (nth out i)).At) := by
      constructor
      · intro h; rw [← h]; exact ⟨rfl, rfl⟩
      · rintro ⟨p, q⟩; cases x; generalize nth sp (nth out i) = y at *; cases y; simp at p q; rw [p, q]
    have de : (onD (nth sp (nth out i)) = onD x) ↔ ((nth sp (nth out i)).Contract = x.Contract ∧ (nth sp (nth out i)).At / 86400 = x.At / 86400) := by
      unfold onD; rw [GDay.mk.injEq]
    by_cases h1 : (nth sp (nth out i)).Contract = x.Contract
    · rw [if_pos h1] at eC
      have e1 : cntC (spAt sp (out.take (i + 1).toNat)) x.Contract = p + 1 := by omega
      by_cases h2 : (nth sp (nth out i)).At / 86400 = x.At / 86400
      · rw [if_pos (de.2 ⟨h1, h2⟩)] at eD
        have e2 : cntD (spAt sp (out.take (i + 1).toNat)) (onD x) = q + 1 := by omega
        cases tw with
        | true =>
          repeat' (first | refine WP_seq ?_ | refine WP_region ?_ | refine wl_nil ?_ | refine then_normal ?_ | refine inB_normal ?_ | refine WP_skip ?_ | refine WP_block ?_ | (refine g_guard ?_; refine st_off rfl ?_) | (refine g_move ?_; refine st_move rfl ?_) | (refine g_assign ?_; refine st_assign rfl ?_) | (refine g_pick ?_; refine st_pickT rfl rfl ?_) | (refine g_b_add ?_; (refine st_val rfl (r_addN rfl rfl ?_ ?_) ?_; (first | omega | (simp <;> omega)); (first | omega | (simp <;> omega)))) | (refine g_b_quo ?_; (refine st_val rfl (r_quoN rfl rfl ?_ ?_ ?_) ?_; (first | omega | (simp <;> omega)); (first | omega | (simp <;> omega)); (first | omega | (simp <;> omega)))) | (refine g_b_eql ?_; refine st_val rfl (r_eql rfl rfl) ?_) | (refine g_b_neq ?_; refine st_val rfl (r_neq rfl rfl) ?_) | (refine g_b_lss ?_; refine st_val rfl (r_lss rfl rfl) ?_) | (refine g_c_len ?_; refine st_val rfl (r_lenSlice rfl) ?_) | (refine g_fieldAddr ?_; refine st_val rfl (r_fieldAddrL rfl) ?_) | (refine g_indexAddr ?_; first | (refine st_val rfl (r_indexAddr (hr2.mono S.below) rfl rfl ?_ ?_) ?_; (first | omega | (simp <;> omega)); (first | omega | (simp <;> omega))) | (refine st_val rfl (r_indexAddr (hr3.mono S.below) rfl rfl ?_ ?_) ?_; (first | omega | (simp <;> omega)); (first | omega | (simp <;> omega)))) | (refine g_load ?_; first | (refine st_val rfl (r_loadElem (hr2.mono S.below) rfl ?_ ?_) ?_; (first | omega | (simp <;> omega)); (first | omega | (simp <;> omega))) | (refine st_val rfl (r_loadElem1 (hr3.mono S.below) rfl ?_ ?_ rfl) ?_; (first | omega | (simp <;> omega)); (first | omega | (simp <;> omega))) | refine st_val rfl (r_loadVar (i := 0) S rfl rfl rfl) ?_ | refine st_val rfl (r_loadVar (i := 2) S rfl rfl rfl) ?_) | (refine g_alloc ?_; refine st_valE rfl (r_alloc S) ?_; rintro _ w ⟨b, rfl, -, S'⟩; replace S := S'; clear S') | (refine g_store ?_; first | (refine st_skipE rfl (r_storeVar (i := 0) S rfl rfl rfl rfl (of_decide_eq_true rfl) (of_decide_eq_true rfl)) ?_; intro w S'; replace S := S'; clear S') | (refine st_skipE rfl (r_storeVar (i := 1) S rfl rfl rfl rfl (of_decide_eq_true rfl) (of_decide_eq_true rfl)) ?_; intro w S'; replace S := S'; clear S') | (refine st_skipE rfl (r_storeVar (i := 2) S rfl rfl rfl rfl (of_decide_eq_true rfl) (of_decide_eq_true rfl)) ?_; intro w S'; replace S := S'; clear S')) | (refine WP_cond rfl (fun h => ?_) (fun h => ?_) <;> (fail_if_success (have hh : true = true := h)) <;> (fail_if_success (have hh : false = false := h)) <;> (try simp only [decide_eq_true_eq, decide_eq_false_iff_not, Bool.not_eq_true', Bool.not_eq_false', Int.not_lt, Int.not_le] at h) <;> (try (exfalso; omega))))
          all_goals
            refine ⟨⟨_, ?_, i + 1, _, _, _, _, true, ⟨rfl, rfl, rfl, rfl, rfl, rfl, rfl, rfl, rfl, trivial⟩, S.keep [true, true], by omega, by omega, e1.symm, e2.symm, by rw [eT]; rfl, rfl⟩⟩
            omega
        | false =>
          have e3 : decide (x ∈ spAt sp (out.take (i + 1).toNat)) = decide ((nth sp (nth out i)).At = x.At) := by rw [eT, Bool.false_or, decide_eq_decide, xe]; omega
          repeat' (first | refine WP_seq ?_ | refine WP_region ?_ | refine wl_nil ?_ | refine then_normal ?_ | refine inB_normal ?_ | refine WP_skip ?_ | refine WP_block ?_ | (refine g_move ?_; refine st_move rfl ?_) | (refine g_assign ?_; refine st_assign rfl ?_) | (refine g_pick ?_; refine st_pickF rfl rfl ?_) | (refine g_b_add ?_; (refine st_val rfl (r_addN rfl rfl ?_ ?_) ?_; (first | omega | (simp <;> omega)); (first | omega | (simp <;> omega)))) | (refine g_b_quo ?_; (refine st_val rfl (r_quoN rfl rfl ?_ ?_ ?_) ?_; (first | omega | (simp <;> omega)); (first | omega | (simp <;> omega)); (first | omega | (simp <;> omega)))) | (refine g_b_eql ?_; refine st_val rfl (r_eql rfl rfl) ?_) | (refine g_b_neq ?_; refine st_val rfl (r_neq rfl rfl) ?_) | (refine g_b_lss ?_; refine st_val rfl (r_lss rfl rfl) ?_) | (refine g_c_len ?_; refine st_val rfl (r_lenSlice rfl) ?_) | (refine g_fieldAddr ?_; refine st_val rfl (r_fieldAddrL rfl) ?_) | (refine g_indexAddr ?_; first | (refine st_val rfl (r_indexAddr (hr2.mono S.below) rfl rfl ?_ ?_) ?_; (first | omega | (simp <;> omega)); (first | omega | (simp <;> omega))) | (refine st_val rfl (r_indexAddr (hr3.mono S.below) rfl rfl ?_ ?_) ?_; (first | omega | (simp <;> omega)); (first | omega | (simp <;> omega)))) | (refine g_load ?_; first | (refine st_val rfl (r_loadElem (hr2.mono S.below) rfl ?_ ?_) ?_; (first | omega | (simp <;> omega)); (first | omega | (simp <;> omega))) | (refine st_val rfl (r_loadElem1 (hr3.mono S.below) rfl ?_ ?_ rfl) ?_; (first | omega | (simp <;> omega)); (first | omega | (simp <;> omega))) | refine st_val rfl (r_loadVar (i := 0) S rfl rfl rfl) ?_ | refine st_val rfl (r_loadVar (i := 2) S rfl rfl rfl) ?_) | (refine g_alloc ?_; refine st_valE rfl (r_alloc S) ?_; rintro _ w ⟨b, rfl, -, S'⟩; replace S := S'; clear S') | (refine g_store ?_; first | (refine st_skipE rfl (r_storeVar (i := 0) S rfl rfl rfl rfl (of_decide_eq_true rfl) (of_decide_eq_true rfl)) ?_; intro w S'; replace S := S'; clear S') | (refine st_skipE rfl (r_storeVar (i := 1) S rfl rfl rfl rfl (of_decide_eq_true rfl) (of_decide_eq_true rfl)) ?_; intro w S'; replace S := S'; clear S') | (refine st_skipE rfl (r_storeVar (i := 2) S rfl rfl rfl rfl (of_decide_eq_true rfl) (of_decide_eq_true rfl)) ?_; intro w S'; replace S := S'; clear S')) | (refine WP_cond rfl (fun h => ?_) (fun h => ?_) <;> (fail_if_success (have hh : true = true := h)) <;> (fail_if_success (have hh : false = false := h)) <;> (try simp only [decide_eq_true_eq, decide_eq_false_iff_not, Bool.not_eq_true', Bool.not_eq_false', Int.not_lt, Int.not_le] at h) <;> (try (exfalso; omega))))
          all_goals
            refine ⟨⟨_, ?_, i + 1, _, _, _, _, _, ⟨rfl, rfl, rfl, rfl, rfl, rfl, rfl, rfl, rfl, trivial⟩, S.keep [true, true], by omega, by omega, e1.symm, e2.symm, by rw [e3], rfl⟩⟩
            omega
      · rw [if_neg (fun h => h2 (de.1 h).2)] at eD
        have e2 : cntD (spAt sp (out.take (i + 1).toNat)) (onD x) = q := by omega
        cases tw with
        | true =>
          repeat' (first | refine WP_seq ?_ | refine WP_region ?_ | refine wl_nil ?_ | refine then_normal ?_ | refine inB_normal ?_ | refine WP_skip ?_ | refine WP_block ?_ | (refine g_guard ?_; refine st_off rfl ?_) | (refine g_move ?_; refine st_move rfl ?_) | (refine g_assign ?_; refine st_assign rfl ?_) | (refine g_pick ?_; refine st_pickT rfl rfl ?_) | (refine g_b_add ?_; (refine st_val rfl (r_addN rfl rfl ?_ ?_) ?_; (first | omega | (simp <;> omega)); (first | omega | (simp <;> omega)))) | (refine g_b_quo ?_; (refine st_val rfl (r_quoN rfl rfl ?_ ?_ ?_) ?_; (first | omega | (simp <;> omega)); (first | omega | (simp <;> omega)); (first | omega | (simp <;> omega)))) | (refine g_b_eql ?_; refine st_val rfl (r_eql rfl rfl) ?_) | (refine g_b_neq ?_; refine st_val rfl (r_neq rfl rfl) ?_) | (refine g_b_lss ?_; refine st_val rfl (r_lss rfl rfl) ?_) | (refine g_c_len ?_; refine st_val rfl (r_lenSlice rfl) ?_) | (refine g_fieldAddr ?_; refine st_val rfl (r_fieldAddrL rfl) ?_) | (refine g_indexAddr ?_; first | (refine st_val rfl (r_indexAddr (hr2.mono S.below) rfl rfl ?_ ?_) ?_; (first | omega | (simp <;> omega)); (first | omega | (simp <;> omega))) | (refine st_val rfl (r_indexAddr (hr3.mono S.below) rfl rfl ?_ ?_) ?_; (first | omega | (simp <;> omega)); (first | omega | (simp <;> omega)))) | (refine g_load ?_; first | (refine st_val rfl (r_loadElem (hr2.mono S.below) rfl ?_ ?_) ?_; (first | omega | (simp <;> omega)); (first | omega | (simp <;> omega))) | (refine st_val rfl (r_loadElem1 (hr3.mono S.below) rfl ?_ ?_ rfl) ?_; (first | omega | (simp <;> omega)); (first | omega | (simp <;> omega))) | refine st_val rfl (r_loadVar (i := 0) S rfl rfl rfl) ?_ | refine st_val rfl (r_loadVar (i := 2) S rfl rfl rfl) ?_) | (refine g_alloc ?_; refine st_valE rfl (r_alloc S) ?_; rintro _ w ⟨b, rfl, -, S'⟩; replace S := S'; clear S') | (refine g_store ?_; first | (refine st_skipE rfl (r_storeVar (i := 0) S rfl rfl rfl rfl (of_decide_eq_true rfl) (of_decide_eq_true rfl)) ?_; intro w S'; replace S := S'; clear S') | (refine st_skipE rfl (r_storeVar (i := 1) S rfl rfl rfl rfl (of_decide_eq_true rfl) (of_decide_eq_true rfl)) ?_; intro w S'; replace S := S'; clear S') | (refine st_skipE rfl (r_storeVar (i := 2) S rfl rfl rfl rfl (of_decide_eq_true rfl) (of_decide_eq_true rfl)) ?_; intro w S'; replace S := S'; clear S')) | (refine WP_cond rfl (fun h => ?_) (fun h => ?_) <;> (fail_if_success (have hh : true = true := h)) <;> (fail_if_success (have hh : false = false := h)) <;> (try simp only [decide_eq_true_eq, decide_eq_false_iff_not, Bool.not_eq_true', Bool.not_eq_false', Int.not_lt, Int.not_le] at h) <;> (try (exfalso; omega))))
          all_goals
            refine ⟨⟨_, ?_, i + 1, _, _, _, _, true, ⟨rfl, rfl, rfl, rfl, rfl, rfl, rfl, rfl, rfl, trivial⟩, S.keep [true, true], by omega, by omega, e1.symm, e2.symm, by rw [eT]; rfl, rfl⟩⟩
            omega
        | false =>
          have e3 : decide (x ∈ spAt sp (out.take (i + 1).toNat)) = decide ((nth sp (nth out i)).At = x.At) := by rw [eT, Bool.false_or, decide_eq_decide, xe]; omega
          repeat' (first | refine WP_seq ?_ | refine WP_region ?_ | refine wl_nil ?_ | refine then_normal ?_ | refine inB_normal ?_ | refine WP_skip ?_ | refine WP_block ?_ | (refine g_move ?_; refine st_move rfl ?_) | (refine g_assign ?_; refine st_assign rfl ?_) | (refine g_pick ?_; refine st_pickF rfl rfl ?_) | (refine g_b_add ?_; (refine st_val rfl (r_addN rfl rfl ?_ ?_) ?_; (first | omega | (simp <;> omega)); (first | omega | (simp <;> omega)))) | (refine g_b_quo ?_; (refine st_val rfl (r_quoN rfl rfl ?_ ?_ ?_) ?_; (first | omega | (simp <;> omega)); (first | omega | (simp <;> omega)); (first | omega | (simp <;> omega)))) | (refine g_b_eql ?_; refine st_val rfl (r_eql rfl rfl) ?_) | (refine g_b_neq ?_; refine st_val rfl (r_neq rfl rfl) ?_) | (refine g_b_lss ?_; refine st_val rfl (r_lss rfl rfl) ?_) | (refine g_c_len ?_; refine st_val rfl (r_lenSlice rfl) ?_) | (refine g_fieldAddr ?_; refine st_val rfl (r_fieldAddrL rfl) ?_) | (refine g_indexAddr ?_; first | (refine st_val rfl (r_indexAddr (hr2.mono S.below) rfl rfl ?_ ?_) ?_; (first | omega | (simp <;> omega)); (first | omega | (simp <;> omega))) | (refine st_val rfl (r_indexAddr (hr3.mono S.below) rfl rfl ?_ ?_) ?_; (first | omega | (simp <;> omega)); (first | omega | (simp <;> omega)))) | (refine g_load ?_; first | (refine st_val rfl (r_loadElem (hr2.mono S.below) rfl ?_ ?_) ?_; (first | omega | (simp <;> omega)); (first | omega | (simp <;> omega))) | (refine st_val rfl (r_loadElem1 (hr3.mono S.below) rfl ?_ ?_ rfl) ?_; (first | omega | (simp <;> omega)); (first | omega | (simp <;> omega))) | refine st_val rfl (r_loadVar (i := 0) S rfl rfl rfl) ?_ | refine st_val rfl (r_loadVar (i := 2) S rfl rfl rfl) ?_) | (refine g_alloc ?_; refine st_valE rfl (r_alloc S) ?_; rintro _ w ⟨b, rfl, -, S'⟩; replace S := S'; clear S') | (refine g_store ?_; first | (refine st_skipE rfl (r_storeVar (i := 0) S rfl rfl rfl rfl (of_decide_eq_true rfl) (of_decide_eq_true rfl)) ?_; intro w S'; replace S := S'; clear S') | (refine st_skipE rfl (r_storeVar (i := 1) S rfl rfl rfl rfl (of_decide_eq_true rfl) (of_decide_eq_true rfl)) ?_; intro w S'; replace S := S'; clear S') | (refine st_skipE rfl (r_storeVar (i := 2) S rfl rfl rfl rfl (of_decide_eq_true rfl) (of_decide_eq_true rfl)) ?_; intro w S'; replace S := S'; clear S')) | (refine WP_cond rfl (fun h => ?_) (fun h => ?_) <;> (fail_if_success (have hh : true = true := h)) <;> (fail_if_success (have hh : false = false := h)) <;> (try simp only [decide_eq_true_eq, decide_eq_false_iff_not, Bool.not_eq_true', Bool.not_eq_false', Int.not_lt, Int.not_le] at h) <;> (try (exfalso; omega))))
          all_goals
            refine ⟨⟨_, ?_, i + 1, _, _, _, _, _, ⟨rfl, rfl, rfl, rfl, rfl, rfl, rfl, rfl, rfl, trivial⟩, S.keep [true, true], by omega, by omega, e1.symm, e2.symm, by rw [e3], rfl⟩⟩
            omega
    · rw [if_neg h1] at eC
      rw [if_neg (fun h => h1 (de.1 h).1)] at eD
      have e1 : cntC (spAt sp (out.take (i + 1).toNat)) x.Contract = p := by omega
      have e2 : cntD (spAt sp (out.take (i + 1).toNat)) (onD x) = q := by omega
      have e3 : decide (x ∈ spAt sp (out.take (i + 1).toNat)) = tw := by
        rw [eT, decide_eq_false (fun h => h1 (xe.1 h).1.symm), Bool.or_false]
      repeat' (first | refine WP_seq ?_ | refine WP_region ?_ | refine wl_nil ?_ | refine then_normal ?_ | refine then_exit ?_ | refine inB_here ?_ | refine WP_skip ?_ | refine WP_exit ?_ | refine WP_block ?_ | (refine g_move ?_; refine st_move rfl ?_) | (refine g_assign ?_; refine st_assign rfl ?_) | (refine g_b_add ?_; (refine st_val rfl (r_addN rfl rfl ?_ ?_) ?_; (first | omega | (simp <;> omega)); (first | omega | (simp <;> omega)))) | (refine g_b_neq ?_; refine st_val rfl (r_neq rfl rfl) ?_) | (refine g_b_lss ?_; refine st_val rfl (r_lss rfl rfl) ?_) | (refine g_c_len ?_; refine st_val rfl (r_lenSlice rfl) ?_) | (refine g_fieldAddr ?_; refine st_val rfl (r_fieldAddrL rfl) ?_) | (refine g_indexAddr ?_; first | (refine st_val rfl (r_indexAddr (hr2.mono S.below) rfl rfl ?_ ?_) ?_; (first | omega | (simp <;> omega)); (first | omega | (simp <;> omega))) | (refine st_val rfl (r_indexAddr (hr3.mono S.below) rfl rfl ?_ ?_) ?_; (first | omega | (simp <;> omega)); (first | omega | (simp <;> omega)))) | (refine g_load ?_; first | (refine st_val rfl (r_loadElem (hr2.mono S.below) rfl ?_ ?_) ?_; (first | omega | (simp <;> omega)); (first | omega | (simp <;> omega))) | (refine st_val rfl (r_loadElem1 (hr3.mono S.below) rfl ?_ ?_ rfl) ?_; (first | omega | (simp <;> omega)); (first | omega | (simp <;> omega))) | refine st_val rfl (r_loadVar (i := 0) S rfl rfl rfl) ?_ | refine st_val rfl (r_loadVar (i := 2) S rfl rfl rfl) ?_) | (refine g_alloc ?_; refine st_valE rfl (r_alloc S) ?_; rintro _ w ⟨b, rfl, -, S'⟩; replace S := S'; clear S') | (refine g_store ?_; first | (refine st_skipE rfl (r_storeVar (i := 0) S rfl rfl rfl rfl (of_decide_eq_true rfl) (of_decide_eq_true rfl)) ?_; intro w S'; replace S := S'; clear S') | (refine st_skipE rfl (r_storeVar (i := 1) S rfl rfl rfl rfl (of_decide_eq_true rfl) (of_decide_eq_true rfl)) ?_; intro w S'; replace S := S'; clear S') | (refine st_skipE rfl (r_storeVar (i := 2) S rfl rfl rfl rfl (of_decide_eq_true rfl) (of_decide_eq_true rfl)) ?_; intro w S'; replace S := S'; clear S')) | (refine WP_cond rfl (fun h => ?_) (fun h => ?_) <;> (fail_if_success (have hh : true = true := h)) <;> (fail_if_success (have hh : false = false := h)) <;> (try simp only [decide_eq_true_eq, decide_eq_false_iff_not, Bool.not_eq_true', Bool.not_eq_false', Int.not_lt, Int.not_le] at h) <;> (try (exfalso; omega))))
      all_goals
        refine ⟨⟨_, ?_, i + 1, _, _, _, _, tw, ⟨rfl, rfl, rfl, rfl, rfl, rfl, rfl, rfl, rfl, trivial⟩, S.keep [true, true], by omega, by omega, e1.symm, e2.symm, e3.symm, rfl⟩⟩
        omega
  · have hit : i.toNat = out.length := by omega
    rw [hit, List.take_length] at hp hq htw
    cases h4 : nearL l (spAt sp out) (nth l z) x.At with
    | _ =>
    cases h3 : inW (nth l z).Week x.At with
    | _ =>
    cases tw with
    | _ =>
    by_cases k1 : x.At < (nth l z).Window.From ∨ (nth l z).Window.To ≤ x.At
    · have e1 : n1 (nth l z) x = true := decide_eq_true k1
      repeat' (first | refine WP_seq ?_ | refine WP_region ?_ | refine wl_nil ?_ | refine then_normal ?_ | refine then_exit ?_ | refine inB_here ?_ | refine then_ret ?_ | refine WP_ret ?_ | refine WP_exit ?_ | refine WP_condT rfl ?_ | (refine g_guard ?_; refine st_off rfl ?_) | (refine g_move ?_; refine st_move rfl ?_) | (refine g_assign ?_; refine st_assign rfl ?_) | (refine g_pick ?_; first | refine st_pickT rfl rfl ?_ | refine st_pickF rfl rfl ?_) | (refine g_b_lss ?_; refine st_val rfl (r_lss rfl rfl) ?_) | (refine g_b_geq ?_; refine st_val rfl (r_geq rfl rfl) ?_) | (refine g_c_len ?_; refine st_val rfl (r_lenSlice rfl) ?_) | (refine g_fieldAddr ?_; refine st_val rfl (r_fieldAddrL rfl) ?_) | (refine g_load ?_; first | refine st_val rfl (r_loadVar (i := 0) S rfl rfl rfl) ?_ | refine st_val rfl (r_loadVar (i := 1) S rfl rfl rfl) ?_) | (refine wl_split rfl rfl (fun h => ?_) (fun h => ?_) <;> (fail_if_success (have hh : true = true := h)) <;> (fail_if_success (have hh : false = false := h)) <;> (try simp only [decide_eq_true_eq, decide_eq_false_iff_not, Bool.not_eq_true', Bool.not_eq_false', Int.not_lt, Int.not_le] at h) <;> (try (exfalso; omega))) | (refine WP_cond rfl (fun h => ?_) (fun h => ?_) <;> (fail_if_success (have hh : true = true := h)) <;> (fail_if_success (have hh : false = false := h)) <;> (try simp only [decide_eq_true_eq, decide_eq_false_iff_not, Bool.not_eq_true', Bool.not_eq_false', Int.not_lt, Int.not_le] at h) <;> (try (exfalso; omega))))
      all_goals exact end1 rfl rfl ⟨ri (by rw [if_pos e1]), S.below⟩
    have e1 : n1 (nth l z) x = false := decide_eq_false k1
    have e2 : n2 (nth l z) x = !inW (nth l z).Week x.At := rfl
    rw [h3] at e2
    by_cases k5 : (nth l z).Count ≤ p
    · have e5 : decide ((nth l z).Count ≤ cntC (spAt sp out) x.Contract) = true := decide_eq_true (by omega)
      repeat' (first | refine WP_seq ?_ | refine WP_region ?_ | refine wl_nil ?_ | refine then_normal ?_ | refine then_exit ?_ | refine inB_here ?_ | refine then_ret ?_ | refine WP_ret ?_ | refine WP_skip ?_ | refine WP_exit ?_ | refine WP_condT rfl ?_ | refine WP_condF rfl ?_ | (refine g_move ?_; refine st_move rfl ?_) | (refine g_assign ?_; refine st_assign rfl ?_) | (refine g_pick ?_; refine st_pickF rfl rfl ?_) | (refine g_b_lss ?_; refine st_val rfl (r_lss rfl rfl) ?_) | (refine g_b_geq ?_; refine st_val rfl (r_geq rfl rfl) ?_) | (refine g_un ?_; refine st_val rfl (r_not rfl) ?_) | (refine g_c_len ?_; refine st_val rfl (r_lenSlice rfl) ?_) | (refine g_fieldAddr ?_; refine st_val rfl (r_fieldAddrL rfl) ?_) | (refine g_load ?_; first | refine st_val rfl (r_loadVar (i := 0) S rfl rfl rfl) ?_ | refine st_val rfl (r_loadVar (i := 1) S rfl rfl rfl) ?_ | refine st_val rfl (r_loadVarA (i := 1) S rfl rfl rfl rfl) ?_) | (refine g_callV ?_; (refine st_callV rfl (r_call2 rfl rfl rfl) (inWR_is h3) ?_; intro w hb; replace S := S.grow hb; clear hb)) | (refine wl_split rfl rfl (fun h => ?_) (fun h => ?_) <;> (fail_if_success (have hh : true = true := h)) <;> (fail_if_success (have hh : false = false := h)) <;> (try simp only [decide_eq_true_eq, decide_eq_false_iff_not, Bool.not_eq_true', Bool.not_eq_false', Int.not_lt, Int.not_le] at h) <;> (try (exfalso; omega))) | (refine WP_cond rfl (fun h => ?_) (fun h => ?_) <;> (fail_if_success (have hh : true = true := h)) <;> (fail_if_success (have hh : false = false := h)) <;> (try simp only [decide_eq_true_eq, decide_eq_false_iff_not, Bool.not_eq_true', Bool.not_eq_false', Int.not_lt, Int.not_le] at h) <;> (try (exfalso; omega))))
      all_goals exact end1 rfl rfl ⟨ri (by rw [e1, e2, ← htw, e5]; rfl), S.below⟩
    have e5 : decide ((nth l z).Count ≤ cntC (spAt sp out) x.Contract) = false := decide_eq_false (by omega)
    by_cases k6 : (nth l z).PerDay ≤ q
    · have e6 : decide ((nth l z).PerDay ≤ cntD (spAt sp out) (onD x)) = true := decide_eq_true (by omega)
      repeat' (first | refine WP_seq ?_ | refine WP_region ?_ | refine wl_nil ?_ | refine then_normal ?_ | refine then_exit ?_ | refine inB_here ?_ | refine then_ret ?_ | refine WP_ret ?_ | refine WP_skip ?_ | refine WP_exit ?_ | refine WP_condT rfl ?_ | refine WP_condF rfl ?_ | (refine g_move ?_; refine st_move rfl ?_) | (refine g_assign ?_; refine st_assign rfl ?_) | (refine g_pick ?_; refine st_pickF rfl rfl ?_) | (refine g_b_lss ?_; refine st_val rfl (r_lss rfl rfl) ?_) | (refine g_b_geq ?_; refine st_val rfl (r_geq rfl rfl) ?_) | (refine g_un ?_; refine st_val rfl (r_not rfl) ?_) | (refine g_c_len ?_; refine st_val rfl (r_lenSlice rfl) ?_) | (refine g_fieldAddr ?_; refine st_val rfl (r_fieldAddrL rfl) ?_) | (refine g_load ?_; first | refine st_val rfl (r_loadVar (i := 0) S rfl rfl rfl) ?_ | refine st_val rfl (r_loadVar (i := 1) S rfl rfl rfl) ?_ | refine st_val rfl (r_loadVarA (i := 1) S rfl rfl rfl rfl) ?_) | (refine g_callV ?_; (refine st_callV rfl (r_call2 rfl rfl rfl) (inWR_is h3) ?_; intro w hb; replace S := S.grow hb; clear hb)) | (refine wl_split rfl rfl (fun h => ?_) (fun h => ?_) <;> (fail_if_success (have hh : true = true := h)) <;> (fail_if_success (have hh : false = false := h)) <;> (try simp only [decide_eq_true_eq, decide_eq_false_iff_not, Bool.not_eq_true', Bool.not_eq_false', Int.not_lt, Int.not_le] at h) <;> (try (exfalso; omega))) | (refine WP_cond rfl (fun h => ?_) (fun h => ?_) <;> (fail_if_success (have hh : true = true := h)) <;> (fail_if_success (have hh : false = false := h)) <;> (try simp only [decide_eq_true_eq, decide_eq_false_iff_not, Bool.not_eq_true', Bool.not_eq_false', Int.not_lt, Int.not_le] at h) <;> (try (exfalso; omega))))
      all_goals exact end1 rfl rfl ⟨ri (by rw [e1, e2, ← htw, e5, e6]; rfl), S.below⟩
    have e6 : decide ((nth l z).PerDay ≤ cntD (spAt sp out) (onD x)) = false := decide_eq_false (by omega)
    repeat' (first | refine WP_seq ?_ | refine WP_region ?_ | refine wl_nil ?_ | refine then_normal ?_ | refine then_exit ?_ | refine inB_here ?_ | refine then_ret ?_ | refine WP_ret ?_ | refine WP_skip ?_ | refine WP_exit ?_ | refine WP_condT rfl ?_ | refine WP_condF rfl ?_ | (refine g_move ?_; refine st_move rfl ?_) | (refine g_assign ?_; refine st_assign rfl ?_) | (refine g_pick ?_; refine st_pickF rfl rfl ?_) | (refine g_b_lss ?_; refine st_val rfl (r_lss rfl rfl) ?_) | (refine g_b_geq ?_; refine st_val rfl (r_geq rfl rfl) ?_) | (refine g_un ?_; refine st_val rfl (r_not rfl) ?_) | (refine g_c_len ?_; refine st_val rfl (r_lenSlice rfl) ?_) | (refine g_fieldAddr ?_; refine st_val rfl (r_fieldAddrL rfl) ?_) | (refine g_load ?_; first | refine st_val rfl (r_loadVar (i := 0) S rfl rfl rfl) ?_ | refine st_val rfl (r_loadVar (i := 1) S rfl rfl rfl) ?_ | refine st_val rfl (r_loadVarA (i := 1) S rfl rfl rfl rfl) ?_) | (refine g_callV ?_; first | (refine st_callV rfl (r_call2 rfl rfl rfl) (inWR_is h3) ?_; intro w hb; replace S := S.grow hb; clear hb) | (refine st_callV rfl (r_call5 rfl rfl rfl rfl rfl rfl) (near_is h4 (hr1.mono S.below) (hr2.mono S.below) (hr3.mono S.below) hl hl2 hl3 hx hsp ho hf) ?_; intro w hb; replace S := S.grow hb; clear hb)) | (refine wl_split rfl rfl (fun h => ?_) (fun h => ?_) <;> (fail_if_success (have hh : true = true := h)) <;> (fail_if_success (have hh : false = false := h)) <;> (try simp only [decide_eq_true_eq, decide_eq_false_iff_not, Bool.not_eq_true', Bool.not_eq_false', Int.not_lt, Int.not_le] at h) <;> (try (exfalso; omega))) | (refine WP_cond rfl (fun h => ?_) (fun h => ?_) <;> (fail_if_success (have hh : true = true := h)) <;> (fail_if_success (have hh : false = false := h)) <;> (try simp only [decide_eq_true_eq, decide_eq_false_iff_not, Bool.not_eq_true', Bool.not_eq_false', Int.not_lt, Int.not_le] at h) <;> (try (exfalso; omega))))
    all_goals exact end1 rfl rfl ⟨ri (by rw [e1, e2, ← htw, e5, e6]; rfl), S.below⟩
end Go.Proofs.YtijnbpnficcpmaaDoor
namespace Go.Proofs.YtijnbpnficcpmaaDoor
open Go Go.Gx Go.RowKit
set_option linter.unusedVariables false
set_option linter.unusedSimpArgs false

theorem ord_ins {sp : List GSpot} {out : List Int} {i k : Nat} (hp : out.Perm (tab idf i)) (hw : out.Pairwise (RS (cS sp))) (hk : k ≤ out.length) (h1 : k = 0 ∨ cS sp i (nth out ((k : Int) - 1)) = false) (h2 : ∀ b ∈ out.drop k, cS sp i b = true) :
    (out.take k ++ (i : Int) :: out.drop k).Perm (tab idf (i + 1)) ∧ (out.take k ++ (i : Int) :: out.drop k).Pairwise (RS (cS sp)) := by
  have e : out.take k ++ out.drop k = out := List.take_append_drop ..
  have et : tab idf (i + 1) = tab idf i ++ [(i : Int)] := by unfold tab; rw [List.range_succ, List.map_append]; rfl
  refine ⟨?_, ?_⟩
  · refine List.perm_middle.trans ?_
    rw [e, et]
    exact (List.perm_append_singleton _ _).symm.trans (hp.append_right _)
  · refine put_fits (cS_sw sp) (by rw [e]; exact hw) (fun y hy => ?_) (fun A' y h => ?_) h2
    · rw [e] at hy
      have := hp.mem_iff.1 hy
      unfold tab at this
      obtain ⟨j, hj, rfl⟩ := List.mem_map.1 this
      have := List.mem_range.1 hj; simp only [idf]; omega
    · have hl := congrArg List.length h
      rw [List.length_take, List.length_append, List.length_singleton] at hl
      rcases h1 with h1 | h1
      · omega
      · have hg : (out.take k)[k - 1]? = some y := by
          rw [h, List.getElem?_append_right (by omega), show k - 1 - A'.length = 0 by omega]; rfl
        rw [List.getElem?_take_of_lt (by omega)] at hg
        have := nth_get (l := out) (i := (k : Int) - 1) (by omega) (by omega)
        rw [show ((k : Int) - 1).toNat = k - 1 by omega, hg] at this
        have := Option.some.inj this
        rw [this]; exact h1
theorem fI_one : ∀ x, ∀ u ∈ (fInt .i64).enc x, u.oneCell' = true := by intro x u hu; cases List.mem_singleton.1 hu; rfl
set_option maxHeartbeats 1000000 in
theorem order_run {v : Value} {sp : List GSpot} {w0 : World} (hr : Rd fGSpot.ty w0 v sp) (hl : sp.length ≤ 1000000) :
    CallsR Tryd.prog 82 #[v] w0 (fun r w' => NewRow (fInt .i64) 3 w0 w' r (ordI sp)) := by
  have S := St.start w0
  obtain ⟨A, c, rfl⟩ := hr.len
  refine CallsR.mk ?_
  refine calls_enter Tryd.func82 rfl (by intro _ h; first | exact nomatch h.1 | (obtain ⟨_, h, _⟩ := h; exact nomatch h)) Tryd.ntmps82 rfl ?_
  repeat' (first | refine WP_seq ?_ | refine WP_region ?_ | refine wl_nil ?_ | refine then_normal ?_ | refine WP_block ?_ | (refine g_assign ?_; refine st_assign rfl ?_))
  replace S := S.nilRow (fInt .i64) 3
  refine WP_loop (fun m σ w1 => ∃ (i : Nat) (p : Int) (vr : Value) (out : List Int), Has σ [(0, .slice A sp.length c), (3, vr), (4, .int .i64 p)] ∧ St w0 w1 [rowOb (fInt .i64) 3 vr out] ∧ p = i ∧ i ≤ sp.length ∧ out.Perm (tab idf i) ∧ out.Pairwise (RS (cS sp)) ∧ m = sp.length - i) sp.length ⟨0, _, _, [], ⟨rfl, rfl, rfl, trivial⟩, S, rfl, by omega, List.Perm.refl _, List.Pairwise.nil, rfl⟩ ?_
  clear S
  rintro m σ w1 ⟨i, p, vr, out, hs, S, hp, hi1, hpm, hpw, hm⟩
  refine WP_has hs ?_
  have hol : out.length = i := by rw [hpm.length_eq, tab_len]
  obtain ⟨A3, c3, hz⟩ := (S.rdRow (D := fInt .i64) (i := 0) rfl).len; subst hz
  by_cases hi : i < sp.length
  · repeat' (first | refine WP_seq ?_ | refine WP_region ?_ | refine wl_nil ?_ | refine then_normal ?_ | refine WP_skip ?_ | refine WP_block ?_ | (refine g_move ?_; refine st_move rfl ?_) | (refine g_assign ?_; refine st_assign rfl ?_) | (refine g_b_lss ?_; refine st_val rfl (r_lss rfl rfl) ?_) | (refine g_c_len ?_; refine st_val rfl (r_lenSlice rfl) ?_) | (refine WP_cond rfl (fun h => ?_) (fun h => ?_) <;> (fail_if_success (have hh : true = true := h)) <;> (fail_if_success (have hh : false = false := h)) <;> (try simp only [decide_eq_true_eq, decide_eq_false_iff_not, Bool.not_eq_true', Bool.not_eq_false', Int.not_lt, Int.not_le] at h) <;> (try (exfalso; omega))))
    refine WP_loop (fun m σ w1 => ∃ (k : Nat) (q : Int), Has σ [(0, .slice A sp.length c), (3, .slice A3 out.length c3), (4, .int .i64 p), (5, .int .i64 q)] ∧ St w0 w1 [rowOb (fInt .i64) 3 (.slice A3 out.length c3) out] ∧ q = k ∧ k ≤ out.length ∧ (∀ b ∈ out.drop k, cS sp i b = true) ∧ m = k) out.length ⟨out.length, _, ⟨rfl, rfl, rfl, rfl, trivial⟩, S, rfl, Nat.le_refl _, (by intro b hb; rw [List.drop_length] at hb; cases hb), rfl⟩ ?_
    clear S hs
    rintro m' σ w1 ⟨k, q, hs, S, hq, hkl, hall, hm'⟩
    refine WP_has hs ?_
    have hins : (k = 0 ∨ cS sp i (nth out ((k : Int) - 1)) = false) → _ := fun h => ord_ins (i := i) hpm hpw hkl h hall
    by_cases hk0 : 0 < k
    · have hm1 : nth out (q - 1) ∈ out := nth_mem (by omega) (by omega)
      have hor : 0 ≤ nth out (q - 1) ∧ nth out (q - 1) < sp.length := by
        have := hpm.mem_iff.1 hm1
        unfold tab at this
        obtain ⟨j, hj, e⟩ := List.mem_map.1 this
        have := List.mem_range.1 hj; rw [← e]; simp only [idf]; omega
      have hcs := @cS_iff sp p (nth out (q - 1))
      by_cases hc : cS sp p (nth out (q - 1)) = true
      · have hc' := hcs.1 hc
        repeat' (first | refine WP_seq ?_ | refine WP_region ?_ | refine wl_nil ?_ | refine then_normal ?_ | refine inB_normal ?_ | refine WP_skip ?_ | refine WP_block ?_ | refine WP_condF rfl ?_ | refine WP_draw (by kernel_rfl) (by kernel_rfl) ?_ | (refine ql_nil ?_; intro w hb; replace S := S.grow hb; clear hb) | (refine g_move ?_; refine st_move rfl ?_) | (refine g_assign ?_; refine st_assign rfl ?_) | (refine g_b_sub ?_; (refine st_val rfl (r_subN rfl rfl ?_ ?_) ?_; (first | omega | (simp <;> omega)); (first | omega | (simp <;> omega)))) | (refine g_b_gtr ?_; refine st_val rfl (r_gtr rfl rfl) ?_) | (refine g_indexAddr ?_; first | (refine st_val rfl (r_indexAddr (hr.mono S.below) rfl rfl ?_ ?_) ?_; (first | omega | (simp <;> omega)); (first | omega | (simp <;> omega))) | (refine st_val rfl (r_indexAddr (S.rdRow (D := (fInt .i64)) (i := 0) rfl) rfl rfl ?_ ?_) ?_; (first | omega | (simp <;> omega)); (first | omega | (simp <;> omega)))) | (refine g_load ?_; first | (refine st_val rfl (r_loadElem (hr.mono S.below) rfl ?_ ?_) ?_; (first | omega | (simp <;> omega)); (first | omega | (simp <;> omega))) | (refine st_val rfl (r_loadElem1 (S.rdRow (D := (fInt .i64)) (i := 0) rfl) rfl ?_ ?_ rfl) ?_; (first | omega | (simp <;> omega)); (first | omega | (simp <;> omega)))) | (refine gq_guard ?_; refine q_off rfl ?_) | (refine gq_move ?_; refine q_move rfl ?_) | (refine gq_pick ?_; first | refine q_pickT rfl rfl ?_ | refine q_pickF rfl rfl ?_) | (refine gq_b_eql ?_; refine q_val rfl (fun w' hb => r_eql rfl rfl) ?_) | (refine gq_b_lss ?_; refine q_val rfl (fun w' hb => r_lss rfl rfl) ?_) | (refine gq_b_leq ?_; refine q_val rfl (fun w' hb => r_leq rfl rfl) ?_) | (refine gq_fieldAddr ?_; first | refine q_val rfl (fun w' hb => r_fieldAddrL rfl) ?_ | refine q_val rfl (fun w' hb => r_fieldAddr rfl) ?_) | (refine gq_indexAddr ?_; (refine q_val rfl (fun w' hb => r_indexAddr (hr.mono (S.grow hb).below) rfl rfl ?_ ?_) ?_; (first | omega | (simp <;> omega)); (first | omega | (simp <;> omega)))) | (refine gq_load ?_; first | (refine q_val rfl (fun w' hb => r_loadElem1 (hr.mono (S.grow hb).below) rfl ?_ ?_ rfl) ?_; (first | omega | (simp <;> omega)); (first | omega | (simp <;> omega))) | (refine q_val rfl (fun w' hb => r_loadElemF (hr.mono (S.grow hb).below) rfl ?_ ?_ rfl) ?_; (first | omega | (simp <;> omega)); (first | omega | (simp <;> omega))) | refine q_val rfl (fun w' hb => r_loadVar (i := 1) (S.grow hb) rfl rfl rfl) ?_) | (refine g_alloc ?_; refine st_valE rfl (r_alloc S) ?_; rintro _ w ⟨b, rfl, -, S'⟩; replace S := S'; clear S') | (refine g_store ?_; first | (refine st_skipE rfl (r_storeVar (i := 0) S rfl rfl rfl rfl (of_decide_eq_true rfl) (of_decide_eq_true rfl)) ?_; intro w S'; replace S := S'; clear S') | (refine st_skipE rfl (r_storeVar (i := 1) S rfl rfl rfl rfl (of_decide_eq_true rfl) (of_decide_eq_true rfl)) ?_; intro w S'; replace S := S'; clear S')) | (refine ql_split rfl rfl (fun h => ?_) (fun h => ?_) <;> (fail_if_success (have hh : true = true := h)) <;> (fail_if_success (have hh : false = false := h)) <;> (try simp only [decide_eq_true_eq, decide_eq_false_iff_not, Bool.not_eq_true', Bool.not_eq_false', Int.not_lt, Int.not_le] at h) <;> (try (exfalso; omega))) | (refine WP_cond rfl (fun h => ?_) (fun h => ?_) <;> (fail_if_success (have hh : true = true := h)) <;> (fail_if_success (have hh : false = false := h)) <;> (try simp only [decide_eq_true_eq, decide_eq_false_iff_not, Bool.not_eq_true', Bool.not_eq_false', Int.not_lt, Int.not_le] at h) <;> (try (exfalso; omega))))
        all_goals
          refine ⟨⟨_, ?_, k - 1, _, ⟨rfl, rfl, rfl, rfl, trivial⟩, S.keep [true], by omega, by omega, fun b hb => ?_, rfl⟩⟩
          · omega
          · have hd : out.drop (k - 1) = nth out (q - 1) :: out.drop k := by
              have hg := nth_get (l := out) (i := q - 1) (by omega) (by omega)
              rw [show (q - 1).toNat = k - 1 by omega] at hg
              obtain ⟨hlt, e⟩ := List.getElem?_eq_some_iff.1 hg
              rw [List.drop_eq_getElem_cons hlt, e, show k - 1 + 1 = k by omega]
            rw [hd] at hb
            rcases List.mem_cons.1 hb with rfl | hb
            · rw [← hp]; exact hc
            · exact hall b hb
      · have hc' : ¬ ((nth sp p).At < (nth sp (nth out (q - 1))).At ∨ ((nth sp p).At = (nth sp (nth out (q - 1))).At ∧ (nth sp p).Contract < (nth sp (nth out (q - 1))).Contract)) := fun h => hc (hcs.2 h)
        have hc2 : (nth sp (nth out (q - 1))).At < (nth sp p).At ∨ ((nth sp (nth out (q - 1))).At = (nth sp p).At ∧ (nth sp (nth out (q - 1))).Contract ≤ (nth sp p).Contract) := by omega
        obtain ⟨hP, hW⟩ := hins (.inr (by rw [← hp, ← hq]; simpa using hc))
        repeat' (first | refine WP_seq ?_ | refine WP_region ?_ | refine wl_nil ?_ | refine then_normal ?_ | refine then_exit ?_ | refine inB_here ?_ | refine inB_past rfl ?_ | refine WP_skip ?_ | refine WP_exit ?_ | refine WP_block ?_ | refine WP_condT rfl ?_ | refine WP_draw (by kernel_rfl) (by kernel_rfl) ?_ | (refine ql_nil ?_; intro w hb; replace S := S.grow hb; clear hb) | (refine g_move ?_; refine st_move rfl ?_) | (refine g_b_sub ?_; (refine st_val rfl (r_subN rfl rfl ?_ ?_) ?_; (first | omega | (simp <;> omega)); (first | omega | (simp <;> omega)))) | (refine g_b_gtr ?_; refine st_val rfl (r_gtr rfl rfl) ?_) | (refine g_indexAddr ?_; first | (refine st_val rfl (r_indexAddr (hr.mono S.below) rfl rfl ?_ ?_) ?_; (first | omega | (simp <;> omega)); (first | omega | (simp <;> omega))) | (refine st_val rfl (r_indexAddr (S.rdRow (D := (fInt .i64)) (i := 0) rfl) rfl rfl ?_ ?_) ?_; (first | omega | (simp <;> omega)); (first | omega | (simp <;> omega)))) | (refine g_load ?_; first | (refine st_val rfl (r_loadElem (hr.mono S.below) rfl ?_ ?_) ?_; (first | omega | (simp <;> omega)); (first | omega | (simp <;> omega))) | (refine st_val rfl (r_loadElem1 (S.rdRow (D := (fInt .i64)) (i := 0) rfl) rfl ?_ ?_ rfl) ?_; (first | omega | (simp <;> omega)); (first | omega | (simp <;> omega)))) | (refine gq_guard ?_; refine q_off rfl ?_) | (refine gq_move ?_; refine q_move rfl ?_) | (refine gq_pick ?_; first | refine q_pickT rfl rfl ?_ | refine q_pickF rfl rfl ?_) | (refine gq_b_eql ?_; refine q_val rfl (fun w' hb => r_eql rfl rfl) ?_) | (refine gq_b_lss ?_; refine q_val rfl (fun w' hb => r_lss rfl rfl) ?_) | (refine gq_b_leq ?_; refine q_val rfl (fun w' hb => r_leq rfl rfl) ?_) | (refine gq_fieldAddr ?_; first | refine q_val rfl (fun w' hb => r_fieldAddrL rfl) ?_ | refine q_val rfl (fun w' hb => r_fieldAddr rfl) ?_) | (refine gq_indexAddr ?_; (refine q_val rfl (fun w' hb => r_indexAddr (hr.mono (S.grow hb).below) rfl rfl ?_ ?_) ?_; (first | omega | (simp <;> omega)); (first | omega | (simp <;> omega)))) | (refine gq_load ?_; first | (refine q_val rfl (fun w' hb => r_loadElem1 (hr.mono (S.grow hb).below) rfl ?_ ?_ rfl) ?_; (first | omega | (simp <;> omega)); (first | omega | (simp <;> omega))) | (refine q_val rfl (fun w' hb => r_loadElemF (hr.mono (S.grow hb).below) rfl ?_ ?_ rfl) ?_; (first | omega | (simp <;> omega)); (first | omega | (simp <;> omega))) | refine q_val rfl (fun w' hb => r_loadVar (i := 1) (S.grow hb) rfl rfl rfl) ?_) | (refine g_alloc ?_; refine st_valE rfl (r_alloc S) ?_; rintro _ w ⟨b, rfl, -, S'⟩; replace S := S'; clear S') | (refine g_store ?_; first | (refine st_skipE rfl (r_storeVar (i := 0) S rfl rfl rfl rfl (of_decide_eq_true rfl) (of_decide_eq_true rfl)) ?_; intro w S'; replace S := S'; clear S') | (refine st_skipE rfl (r_storeVar (i := 1) S rfl rfl rfl rfl (of_decide_eq_true rfl) (of_decide_eq_true rfl)) ?_; intro w S'; replace S := S'; clear S')) | (refine ql_split rfl rfl (fun h => ?_) (fun h => ?_) <;> (fail_if_success (have hh : true = true := h)) <;> (fail_if_success (have hh : false = false := h)) <;> (try simp only [decide_eq_true_eq, decide_eq_false_iff_not, Bool.not_eq_true', Bool.not_eq_false', Int.not_lt, Int.not_le] at h) <;> (try (exfalso; omega))) | (refine WP_cond rfl (fun h => ?_) (fun h => ?_) <;> (fail_if_success (have hh : true = true := h)) <;> (fail_if_success (have hh : false = false := h)) <;> (try simp only [decide_eq_true_eq, decide_eq_false_iff_not, Bool.not_eq_true', Bool.not_eq_false', Int.not_lt, Int.not_le] at h) <;> (try (exfalso; omega))))
        all_goals
          replace S : St w0 w [rowOb (fInt .i64) 3 (.slice A3 out.length c3) out] := S.keep [true]
          refine st_valE rfl (r_lit0 (D := fInt .i64) S) ?_
          rintro vn w ⟨-, S'⟩; replace S := S'; clear S'
          repeat' ((refine g_move ?_; refine st_move rfl ?_))
          refine st_val rfl (r_sliceHi (S.rdRow (D := fInt .i64) (i := 0) rfl) rfl rfl (by omega) (by omega)) ?_
          refine st_valE rfl (r_appendRd (i := 1) (l := []) (D := fInt .i64) S rfl ((S.rdRow (D := fInt .i64) (i := 0) rfl).cut (lo := 0) (hi := q.toNat) (by omega) (by omega)) rfl rfl rfl (by decide) fI_one (by simp; omega) (by simp; omega)) ?_
          rintro vn1 w ⟨-, S'⟩; replace S := S'; clear S'
          repeat' (first | refine WP_seq ?_ | refine WP_region ?_ | refine wl_nil ?_ | refine then_normal ?_ | (refine g_move ?_; refine st_move rfl ?_) | (refine g_assign ?_; refine st_assign rfl ?_))
          refine st_valE rfl (r_litF (D := fInt .i64) [p] (Value.int .i64) S rfl rfl (fun _ => rfl) rfl (by decide) (by decide)) ?_
          rintro _ w ⟨bl, rfl, -, hcl, S'⟩; replace S := S'; clear S'
          refine st_valE rfl (r_append1 (D := fInt .i64) (i := 1) (b := bl) (x := p) S rfl rfl rfl (fl_one hcl) rfl (by decide) (of_decide_eq_true rfl) (by simp; omega) (by simp; omega)) ?_
          rintro vn2 w ⟨-, S'⟩; replace S := S'; clear S' hcl
          repeat' (first | refine WP_region ?_ | refine wl_nil ?_ | refine then_normal ?_ | (refine g_move ?_; refine st_move rfl ?_) | (refine g_assign ?_; refine st_assign rfl ?_))
          refine st_val rfl (r_sliceLo (S.rdRow (D := fInt .i64) (i := 0) rfl) rfl rfl (by omega) (by omega)) ?_
          refine st_valE rfl (r_appendRd (i := 1) (D := fInt .i64) S rfl ((S.rdRow (D := fInt .i64) (i := 0) rfl).cut (lo := q.toNat) (hi := out.length) (by omega) (by omega)) rfl rfl rfl (by decide) fI_one (by simp; omega) (by simp; omega)) ?_
          rintro vn3 w ⟨-, S'⟩; replace S := S'; clear S'
          repeat' (first | refine WP_region ?_ | refine wl_nil ?_ | refine then_normal ?_ | refine inB_normal ?_ | (refine g_move ?_; refine st_move rfl ?_) | (refine g_assign ?_; refine st_assign rfl ?_) | (refine g_b_add ?_; (refine st_val rfl (r_addN rfl rfl ?_ ?_) ?_; (first | omega | (simp <;> omega)); (first | omega | (simp <;> omega)))))
          have eX : [] ++ (out.take q.toNat).drop 0 ++ [p] ++ (out.take out.length).drop q.toNat = out.take k ++ (i : Int) :: out.drop k := by
            rw [hp, hq, Int.toNat_natCast, List.take_length]; simp
          replace S : St w0 w [rowOb (fInt .i64) 3 vn3 (out.take k ++ (i : Int) :: out.drop k)] := by rw [← eX]; exact S.keep [false, true]
          refine ⟨⟨_, ?_, i + 1, _, vn3, _, ⟨rfl, rfl, rfl, trivial⟩, S, by omega, by omega, hP, hW, rfl⟩⟩
          omega
    · have hq0 : q = 0 := by omega
      obtain ⟨hP, hW⟩ := hins (.inl (by omega))
      repeat' (first | refine WP_seq ?_ | refine WP_region ?_ | refine wl_nil ?_ | refine then_normal ?_ | refine then_exit ?_ | refine inB_here ?_ | refine WP_exit ?_ | (refine g_move ?_; refine st_move rfl ?_) | (refine g_b_gtr ?_; refine st_val rfl (r_gtr rfl rfl) ?_) | (refine WP_cond rfl (fun h => ?_) (fun h => ?_) <;> (fail_if_success (have hh : true = true := h)) <;> (fail_if_success (have hh : false = false := h)) <;> (try simp only [decide_eq_true_eq, decide_eq_false_iff_not, Bool.not_eq_true', Bool.not_eq_false', Int.not_lt, Int.not_le] at h) <;> (try (exfalso; omega))))
      all_goals
        replace S : St w0 w1 [rowOb (fInt .i64) 3 (.slice A3 out.length c3) out] := S.keep [true]
        refine st_valE rfl (r_lit0 (D := fInt .i64) S) ?_
        rintro vn w ⟨-, S'⟩; replace S := S'; clear S'
        repeat' ((refine g_move ?_; refine st_move rfl ?_))
        refine st_val rfl (r_sliceHi (S.rdRow (D := fInt .i64) (i := 0) rfl) rfl rfl (by omega) (by omega)) ?_
        refine st_valE rfl (r_appendRd (i := 1) (l := []) (D := fInt .i64) S rfl ((S.rdRow (D := fInt .i64) (i := 0) rfl).cut (lo := 0) (hi := q.toNat) (by omega) (by omega)) rfl rfl rfl (by decide) fI_one (by simp; omega) (by simp; omega)) ?_
        rintro vn1 w ⟨-, S'⟩; replace S := S'; clear S'
        repeat' (first | refine WP_seq ?_ | refine WP_region ?_ | refine wl_nil ?_ | refine then_normal ?_ | (refine g_move ?_; refine st_move rfl ?_) | (refine g_assign ?_; refine st_assign rfl ?_))
        refine st_valE rfl (r_litF (D := fInt .i64) [p] (Value.int .i64) S rfl rfl (fun _ => rfl) rfl (by decide) (by decide)) ?_
        rintro _ w ⟨bl, rfl, -, hcl, S'⟩; replace S := S'; clear S'
        refine st_valE rfl (r_append1 (D := fInt .i64) (i := 1) (b := bl) (x := p) S rfl rfl rfl (fl_one hcl) rfl (by decide) (of_decide_eq_true rfl) (by simp; omega) (by simp; omega)) ?_
        rintro vn2 w ⟨-, S'⟩; replace S := S'; clear S' hcl
        repeat' (first | refine WP_region ?_ | refine wl_nil ?_ | refine then_normal ?_ | (refine g_move ?_; refine st_move rfl ?_) | (refine g_assign ?_; refine st_assign rfl ?_))
        refine st_val rfl (r_sliceLo (S.rdRow (D := fInt .i64) (i := 0) rfl) rfl rfl (by omega) (by omega)) ?_
        refine st_valE rfl (r_appendRd (i := 1) (D := fInt .i64) S rfl ((S.rdRow (D := fInt .i64) (i := 0) rfl).cut (lo := q.toNat) (hi := out.length) (by omega) (by omega)) rfl rfl rfl (by decide) fI_one (by simp; omega) (by simp; omega)) ?_
        rintro vn3 w ⟨-, S'⟩; replace S := S'; clear S'
        repeat' (first | refine WP_region ?_ | refine wl_nil ?_ | refine then_normal ?_ | refine inB_normal ?_ | (refine g_move ?_; refine st_move rfl ?_) | (refine g_assign ?_; refine st_assign rfl ?_) | (refine g_b_add ?_; (refine st_val rfl (r_addN rfl rfl ?_ ?_) ?_; (first | omega | (simp <;> omega)); (first | omega | (simp <;> omega)))))
        have eX : [] ++ (out.take q.toNat).drop 0 ++ [p] ++ (out.take out.length).drop q.toNat = out.take k ++ (i : Int) :: out.drop k := by
          rw [hp, hq, Int.toNat_natCast, List.take_length]; simp
        replace S : St w0 w [rowOb (fInt .i64) 3 vn3 (out.take k ++ (i : Int) :: out.drop k)] := by rw [← eX]; exact S.keep [false, true]
        refine ⟨⟨_, ?_, i + 1, _, vn3, _, ⟨rfl, rfl, rfl, trivial⟩, S, by omega, by omega, hP, hW, rfl⟩⟩
        omega
  · repeat' (first | refine WP_seq ?_ | refine WP_region ?_ | refine wl_nil ?_ | refine then_normal ?_ | refine then_exit ?_ | refine inB_here ?_ | refine WP_ret ?_ | refine WP_exit ?_ | (refine g_move ?_; refine st_move rfl ?_) | (refine g_assign ?_; refine st_assign rfl ?_) | (refine g_b_lss ?_; refine st_val rfl (r_lss rfl rfl) ?_) | (refine g_c_len ?_; refine st_val rfl (r_lenSlice rfl) ?_) | (refine WP_cond rfl (fun h => ?_) (fun h => ?_) <;> (fail_if_success (have hh : true = true := h)) <;> (fail_if_success (have hh : false = false := h)) <;> (try simp only [decide_eq_true_eq, decide_eq_false_iff_not, Bool.not_eq_true', Bool.not_eq_false', Int.not_lt, Int.not_le] at h) <;> (try (exfalso; omega))))
    have e : i = sp.length := by omega
    subst e
    have hO : Ord sp out := ⟨hpm, hpw⟩
    rw [← hO.eq]
    exact end1 rfl rfl ⟨_, rfl, S.below, S.row (i := 0) rfl⟩
end Go.Proofs.YtijnbpnficcpmaaDoor
namespace Go.Proofs.YtijnbpnficcpmaaDoor
open Go Go.Gx Go.RowKit
set_option linter.unusedVariables false
set_option linter.unusedSimpArgs false

theorem rsn_found {l : List GContract} {cnt : List GSpot} {x : GSpot} (h : rsn l cnt x = 0) : cFind l x.Contract ≠ none := by
  intro hn; unfold rsn at h; rw [hn] at h; simp at h
theorem outOf_found {l : List GContract} {sp : List GSpot} (turn : List Int) : ∀ s ∈ spAt sp (outOf l sp turn), cFind l s.Contract ≠ none := by
  have key : ∀ (t : List Int) (o : List Int), (∀ s ∈ spAt sp o, cFind l s.Contract ≠ none) → ∀ s ∈ spAt sp (t.foldl (stepO l sp) o), cFind l s.Contract ≠ none := by
    intro t
    induction t with
    | nil => intro o h; exact h
    | cons a t ih =>
      intro o h
      refine ih _ fun s hs => ?_
      unfold stepO at hs
      split at hs
      · rename_i h0
        unfold spAt at hs
        rw [List.map_append] at hs
        rcases List.mem_append.1 hs with hs | hs
        · exact h s hs
        · rw [List.mem_singleton.1 hs]; exact rsn_found h0
      · exact h s hs
  exact key turn [] (fun s hs => by cases hs)
theorem validR_is {v : Value} {l : List GContract} {b : Bool} {w0 : World} (h : validC l = b) (hr : Rd fGContract.ty w0 v l) (hl : l.length ≤ 1000000000) : CallsV Tryd.prog 49 #[v] w0 (.bool b) := by rw [← h]; exact validR_spec hr hl
theorem validSpotsR_is {v : Value} {l : List GSpot} {b : Bool} {w0 : World} (h : validP l = b) (hr : Rd fGSpot.ty w0 v l) (hl : l.length ≤ 1000000000) : CallsV Tryd.prog 50 #[v] w0 (.bool b) := by rw [← h]; exact validSpotsR_spec hr hl
theorem spot_is {x : GSpot} {b : Bool} {w0 : World} (h : okP x = b) : CallsV Tryd.prog 81 #[.agg x.enc.toArray] w0 (.bool b) := by rw [← h]; exact spot_spec
theorem reasonR_is {v1 v2 v3 : Value} {l : List GContract} {sp : List GSpot} {out : List Int} {x : GSpot} {z : Int} {w0 : World} (hz : rsn l (spAt sp out) x = z) (hr1 : Rd fGContract.ty w0 v1 l) (hr2 : Rd fGSpot.ty w0 v2 sp) (hr3 : Rd (fInt .i64).ty w0 v3 out) (hl : l.length ≤ 1000000000) (hl2 : sp.length ≤ 1000000000) (hl3 : out.length ≤ 1000000000)
    (hx : 0 ≤ x.At ∧ x.At ≤ 9999999) (hsp : ∀ s ∈ sp, 0 ≤ s.At ∧ s.At ≤ 9999999) (ho : ∀ x ∈ out, 0 ≤ x ∧ x < sp.length) (hf : ∀ s ∈ spAt sp out, cFind l s.Contract ≠ none) :
    CallsV Tryd.prog 83 #[v1, v2, v3, .agg x.enc.toArray] w0 (.int .i64 z) := by rw [← hz]; exact reasonR_spec hr1 hr2 hr3 hl hl2 hl3 hx hsp ho hf
set_option maxHeartbeats 1000000 in
theorem countedR_run {l : List GContract} {sp : List GSpot} {v1 v2 : Value} {w0 : World} (hr1 : Rd fGContract.ty w0 v1 l) (hr2 : Rd fGSpot.ty w0 v2 sp) (hl : l.length ≤ 1000000000) (hl2 : sp.length ≤ 1000000000) :
    CallsR Tryd.prog 52 #[v1, v2] w0 (RowE w0 (countedI l sp)) := by
  have S := St.start w0
  obtain ⟨A, c1, rfl⟩ := hr1.len
  obtain ⟨A2, c2, rfl⟩ := hr2.len
  refine CallsR.mk ?_
  refine calls_enter Tryd.func52 rfl (by intro _ h; first | exact nomatch h.1 | (obtain ⟨_, h, _⟩ := h; exact nomatch h)) Tryd.ntmps52 rfl ?_
  by_cases h1 : validC l = true
  · by_cases h2 : validP sp = true
    · have h : okI l sp = true := by unfold okI; rw [h1, h2]; rfl
      have ec : countedI l sp = (cntI l sp, 0) := by unfold countedI; rw [h]; rfl
      rw [ec]
      have hp60 := validP_len h2
      have hl12 := validC_len h1
      have hsp : ∀ s ∈ sp, 0 ≤ s.At ∧ s.At ≤ 9999999 := fun s hs => (validP_at h2 hs).2.2
      repeat' (first | refine WP_seq ?_ | refine WP_region ?_ | refine wl_nil ?_ | refine then_normal ?_ | refine WP_skip ?_ | refine WP_condF rfl ?_ | (refine g_move ?_; refine st_move rfl ?_) | (refine g_assign ?_; refine st_assign rfl ?_) | (refine g_pick ?_; refine st_pickF rfl rfl ?_) | (refine g_un ?_; refine st_val rfl (r_not rfl) ?_) | (refine g_callV ?_; first | (refine st_callV rfl (r_call1 rfl rfl) (validR_is h1 (hr1.mono S.below) hl) ?_; intro w hb; replace S := S.grow hb; clear hb) | (refine st_callV rfl (r_call1 rfl rfl) (validSpotsR_is h2 (hr2.mono S.below) hl2) ?_; intro w hb; replace S := S.grow hb; clear hb)))
      refine st_callR rfl (r_call1 rfl rfl) (order_run (hr2.mono S.below) (by omega)) ?_
      rintro vt w hb hrow; replace S := S.new hb hrow; clear hb hrow
      obtain ⟨turn, ht⟩ : ∃ turn, ordI sp = turn := ⟨_, rfl⟩
      have hO : Ord sp turn := by rw [← ht]; exact ordI_ok sp
      have hOl := hO.len
      rw [ht] at S
      replace S : St w0 w [rowOb (fInt .i64) 3 vt turn] := S
      obtain ⟨A3, c3, hz⟩ := (S.rdRow (D := fInt .i64) (i := 0) rfl).len; subst hz
      repeat' (first | refine WP_seq ?_ | refine WP_region ?_ | refine wl_nil ?_ | refine then_normal ?_ | refine WP_block ?_ | (refine g_assign ?_; refine st_assign rfl ?_))
      replace S := S.nilRow (fInt .i64) 3
      refine WP_loop (fun m σ w1 => ∃ (i : Int) (vo : Value) (out : List Int), Has σ [(0, .slice A l.length c1), (1, .slice A2 sp.length c2), (6, vo), (7, .slice A3 turn.length c3), (8, .int .i64 i)] ∧ St w0 w1 [rowOb (fInt .i64) 3 (.slice A3 turn.length c3) turn, rowOb (fInt .i64) 3 vo out] ∧ 0 ≤ i ∧ i ≤ turn.length ∧ out = outOf l sp (turn.take i.toNat) ∧ m = turn.length - i.toNat) turn.length ⟨0, _, [], ⟨rfl, rfl, rfl, rfl, rfl, trivial⟩, S, by omega, by omega, rfl, by omega⟩ ?_
      clear S
      rintro m σ w1 ⟨i, vo, out, hs, S, hi0, hi1, hout, hm⟩
      refine WP_has hs ?_
      have hol : out.length ≤ 60 := by
        have := outOf_len (l := l) (sp := sp) (turn.take i.toNat)
        rw [List.length_take] at this; rw [hout]; omega
      have hom : ∀ x ∈ out, 0 ≤ x ∧ x < sp.length := by
        rw [hout]; exact fun x hx => hO.mem (List.mem_of_mem_take (outOf_mem hx))
      have hf : ∀ s ∈ spAt sp out, cFind l s.Contract ≠ none := by rw [hout]; exact outOf_found _
      by_cases hi : i < turn.length
      · have hjr := hO.mem (nth_mem hi0 hi)
        have hxr := hsp _ (nth_mem hjr.1 hjr.2)
        have hstep : outOf l sp (turn.take (i + 1).toNat) = if rsn l (spAt sp out) (nth sp (nth turn i)) = 0 then out ++ [nth turn i] else out := by
          rw [foldl_at hi0 hi, ← hout]; rfl
        obtain ⟨A4, c4, hz⟩ := (S.rdRow (D := fInt .i64) (i := 1) rfl).len; subst hz
        obtain ⟨z, hzz⟩ : ∃ z, rsn l (spAt sp out) (nth sp (nth turn i)) = z := ⟨_, rfl⟩
        rw [hzz] at hstep
        by_cases h0 : z = 0
        · rw [if_pos h0] at hstep
          subst h0
          repeat' (first | refine WP_seq ?_ | refine WP_region ?_ | refine wl_nil ?_ | refine then_normal ?_ | refine WP_skip ?_ | refine WP_block ?_ | refine WP_condT rfl ?_ | (refine g_move ?_; refine st_move rfl ?_) | (refine g_b_eql ?_; refine st_val rfl (r_eql rfl rfl) ?_) | (refine g_b_lss ?_; refine st_val rfl (r_lss rfl rfl) ?_) | (refine g_c_len ?_; refine st_val rfl (r_lenSlice rfl) ?_) | (refine g_indexAddr ?_; first | (refine st_val rfl (r_indexAddr (hr2.mono S.below) rfl rfl ?_ ?_) ?_; (first | omega | (simp <;> omega)); (first | omega | (simp <;> omega))) | (refine st_val rfl (r_indexAddr (S.rdRow (D := (fInt .i64)) (i := 0) rfl) rfl rfl ?_ ?_) ?_; (first | omega | (simp <;> omega)); (first | omega | (simp <;> omega)))) | (refine g_load ?_; first | (refine st_val rfl (r_loadElem (hr2.mono S.below) rfl ?_ ?_) ?_; (first | omega | (simp <;> omega)); (first | omega | (simp <;> omega))) | (refine st_val rfl (r_loadElem1 (S.rdRow (D := (fInt .i64)) (i := 0) rfl) rfl ?_ ?_ rfl) ?_; (first | omega | (simp <;> omega)); (first | omega | (simp <;> omega)))) | (refine g_callV ?_; (refine st_callV rfl (r_call4 rfl rfl rfl rfl rfl) (reasonR_is hzz (hr1.mono S.below) (hr2.mono S.below) (S.rdRow (D := fInt .i64) (i := 1) rfl) hl hl2 (by omega) hxr hsp hom hf) ?_; intro w hb; replace S := S.grow hb; clear hb)) | (refine WP_cond rfl (fun h => ?_) (fun h => ?_) <;> (fail_if_success (have hh : true = true := h)) <;> (fail_if_success (have hh : false = false := h)) <;> (try simp only [decide_eq_true_eq, decide_eq_false_iff_not, Bool.not_eq_true', Bool.not_eq_false', Int.not_lt, Int.not_le] at h) <;> (try (exfalso; omega))))
          refine st_valE rfl (r_litF (D := fInt .i64) [nth turn i] (Value.int .i64) S rfl rfl (fun _ => rfl) rfl (by decide) (by decide)) ?_
          rintro _ w ⟨bl, rfl, -, hcl, S'⟩; replace S := S'; clear S'
          refine st_valE rfl (r_append1 (D := fInt .i64) (i := 1) (b := bl) (x := nth turn i) S rfl rfl rfl (fl_one hcl) rfl (by decide) (of_decide_eq_true rfl) (by omega) (by omega)) ?_
          rintro vo' w ⟨-, S'⟩; replace S := S'; clear S' hcl
          repeat' (first | refine WP_region ?_ | refine wl_nil ?_ | refine then_normal ?_ | refine inB_normal ?_ | (refine g_move ?_; refine st_move rfl ?_) | (refine g_assign ?_; refine st_assign rfl ?_) | (refine g_b_add ?_; (refine st_val rfl (r_addN rfl rfl ?_ ?_) ?_; (first | omega | (simp <;> omega)); (first | omega | (simp <;> omega)))))
          refine ⟨⟨_, ?_, i + 1, vo', _, ⟨rfl, rfl, rfl, rfl, rfl, trivial⟩, S.keep [true, true], by omega, by omega, hstep.symm, rfl⟩⟩
          omega
        · rw [if_neg h0] at hstep
          repeat' (first | refine WP_seq ?_ | refine WP_region ?_ | refine wl_nil ?_ | refine then_normal ?_ | refine inB_normal ?_ | refine WP_skip ?_ | refine WP_block ?_ | (refine g_move ?_; refine st_move rfl ?_) | (refine g_assign ?_; refine st_assign rfl ?_) | (refine g_b_add ?_; (refine st_val rfl (r_addN rfl rfl ?_ ?_) ?_; (first | omega | (simp <;> omega)); (first | omega | (simp <;> omega)))) | (refine g_b_eql ?_; refine st_val rfl (r_eql rfl rfl) ?_) | (refine g_b_lss ?_; refine st_val rfl (r_lss rfl rfl) ?_) | (refine g_c_len ?_; refine st_val rfl (r_lenSlice rfl) ?_) | (refine g_indexAddr ?_; first | (refine st_val rfl (r_indexAddr (hr2.mono S.below) rfl rfl ?_ ?_) ?_; (first | omega | (simp <;> omega)); (first | omega | (simp <;> omega))) | (refine st_val rfl (r_indexAddr (S.rdRow (D := (fInt .i64)) (i := 0) rfl) rfl rfl ?_ ?_) ?_; (first | omega | (simp <;> omega)); (first | omega | (simp <;> omega)))) | (refine g_load ?_; first | (refine st_val rfl (r_loadElem (hr2.mono S.below) rfl ?_ ?_) ?_; (first | omega | (simp <;> omega)); (first | omega | (simp <;> omega))) | (refine st_val rfl (r_loadElem1 (S.rdRow (D := (fInt .i64)) (i := 0) rfl) rfl ?_ ?_ rfl) ?_; (first | omega | (simp <;> omega)); (first | omega | (simp <;> omega)))) | (refine g_callV ?_; (refine st_callV rfl (r_call4 rfl rfl rfl rfl rfl) (reasonR_is hzz (hr1.mono S.below) (hr2.mono S.below) (S.rdRow (D := fInt .i64) (i := 1) rfl) hl hl2 (by omega) hxr hsp hom hf) ?_; intro w hb; replace S := S.grow hb; clear hb)) | (refine WP_cond rfl (fun h => ?_) (fun h => ?_) <;> (fail_if_success (have hh : true = true := h)) <;> (fail_if_success (have hh : false = false := h)) <;> (try simp only [decide_eq_true_eq, decide_eq_false_iff_not, Bool.not_eq_true', Bool.not_eq_false', Int.not_lt, Int.not_le] at h) <;> (try (exfalso; omega))))
          refine ⟨⟨_, ?_, i + 1, _, _, ⟨rfl, rfl, rfl, rfl, rfl, trivial⟩, S.keep [true, true], by omega, by omega, hstep.symm, rfl⟩⟩
          omega
      · have hit : i.toNat = turn.length := by omega
        rw [hit, List.take_length, ← ht] at hout
        subst hout
        repeat' (first | refine WP_seq ?_ | refine WP_region ?_ | refine wl_nil ?_ | refine then_normal ?_ | refine then_exit ?_ | refine inB_here ?_ | refine WP_ret ?_ | refine WP_exit ?_ | (refine g_move ?_; refine st_move rfl ?_) | (refine g_assign ?_; refine st_assign rfl ?_) | (refine g_b_lss ?_; refine st_val rfl (r_lss rfl rfl) ?_) | (refine g_c_len ?_; refine st_val rfl (r_lenSlice rfl) ?_) | (refine WP_cond rfl (fun h => ?_) (fun h => ?_) <;> (fail_if_success (have hh : true = true := h)) <;> (fail_if_success (have hh : false = false := h)) <;> (try simp only [decide_eq_true_eq, decide_eq_false_iff_not, Bool.not_eq_true', Bool.not_eq_false', Int.not_lt, Int.not_le] at h) <;> (try (exfalso; omega))))
        exact end2 rfl rfl rfl ⟨_, rfl, S.below, vo, rfl, S.row (i := 1) rfl⟩
    · have h2' : validP sp = false := by simpa using h2
      have ec : countedI l sp = ([], 120) := by unfold countedI okI; rw [h1, h2']; rfl
      rw [ec]
      repeat' (first | refine WP_seq ?_ | refine WP_region ?_ | refine wl_nil ?_ | refine then_normal ?_ | refine then_ret ?_ | refine WP_ret ?_ | refine WP_condT rfl ?_ | (refine g_move ?_; refine st_move rfl ?_) | (refine g_assign ?_; refine st_assign rfl ?_) | (refine g_pick ?_; refine st_pickF rfl rfl ?_) | (refine g_un ?_; refine st_val rfl (r_not rfl) ?_) | (refine g_callV ?_; first | (refine st_callV rfl (r_call1 rfl rfl) (validR_is h1 (hr1.mono S.below) hl) ?_; intro w hb; replace S := S.grow hb; clear hb) | (refine st_callV rfl (r_call1 rfl rfl) (validSpotsR_is h2' (hr2.mono S.below) hl2) ?_; intro w hb; replace S := S.grow hb; clear hb)))
      exact end2 rfl rfl rfl ⟨_, rfl, S.below, _, rfl, NewRow.nil _ _ _ _⟩
  · have h1' : validC l = false := by simpa using h1
    have ec : countedI l sp = ([], 120) := by unfold countedI okI; rw [h1']; rfl
    rw [ec]
    repeat' (first | refine WP_seq ?_ | refine WP_region ?_ | refine wl_nil ?_ | refine then_normal ?_ | refine then_ret ?_ | refine WP_ret ?_ | refine WP_condT rfl ?_ | (refine g_guard ?_; refine st_off rfl ?_) | (refine g_move ?_; refine st_move rfl ?_) | (refine g_assign ?_; refine st_assign rfl ?_) | (refine g_pick ?_; refine st_pickT rfl rfl ?_) | (refine g_un ?_; refine st_val rfl (r_not rfl) ?_) | (refine g_callV ?_; (refine st_callV rfl (r_call1 rfl rfl) (validR_is h1' (hr1.mono S.below) hl) ?_; intro w hb; replace S := S.grow hb; clear hb)))
    exact end2 rfl rfl rfl ⟨_, rfl, S.below, _, rfl, NewRow.nil _ _ _ _⟩
theorem cntI_found (l : List GContract) (sp : List GSpot) : ∀ s ∈ cntS l sp, cFind l s.Contract ≠ none := outOf_found _
theorem okP_sp {l : List GContract} {sp : List GSpot} (h : okI l sp = true) : ∀ s ∈ sp, 0 ≤ s.At ∧ s.At ≤ 9999999 := fun s hs => (validP_at (okI_t h).2 hs).2.2
end Go.Proofs.YtijnbpnficcpmaaDoor
namespace Go.Proofs.YtijnbpnficcpmaaDoor
open Go Go.Gx Go.RowKit
set_option linter.unusedVariables false
set_option linter.unusedSimpArgs false

def pickI (c n : Int) : Int := (if c < 0 then -(c + 1) else c) % n
theorem pickI_range {c n : Int} (hn : 0 < n) : 0 ≤ pickI c n ∧ pickI c n < n := ⟨Int.emod_nonneg _ (by omega), Int.emod_lt_of_pos _ hn⟩
theorem pickC_spec {c n : Int} {w : World} (hc0 : -9223372036854775808 ≤ c) (hc : c ≤ 9223372036854775807) (hn : 0 < n) : CallsV Tryd.prog 39 #[.int .i64 c, .int .i64 n] w (.int .i64 (pickI c n)) := by
  have S := St.start w
  refine CallsV.mk ?_
  refine calls_enter Tryd.func39 rfl (by intro _ h; first | exact nomatch h.1 | (obtain ⟨_, h, _⟩ := h; exact nomatch h)) Tryd.ntmps39 rfl ?_
  repeat' (first | refine WP_seq ?_ | refine WP_region ?_ | refine wl_nil ?_ | refine then_normal ?_ | refine WP_ret ?_ | refine WP_skip ?_ | (refine g_move ?_; refine st_move rfl ?_) | (refine g_assign ?_; refine st_assign rfl ?_) | (refine g_b_add ?_; (refine st_val rfl (r_addN rfl rfl ?_ ?_) ?_; (first | omega | (simp <;> omega)); (first | omega | (simp <;> omega)))) | (refine g_b_rem ?_; (refine st_val rfl (r_remN rfl rfl ?_ ?_) ?_; (first | omega | (simp <;> omega)); (first | omega | (simp <;> omega)))) | (refine g_b_lss ?_; refine st_val rfl (r_lss rfl rfl) ?_) | (refine g_un ?_; (refine st_val rfl (r_negN rfl ?_ ?_) ?_; (first | omega | (simp <;> omega)); (first | omega | (simp <;> omega)))) | (refine WP_cond rfl (fun h => ?_) (fun h => ?_) <;> (fail_if_success (have hh : true = true := h)) <;> (fail_if_success (have hh : false = false := h)) <;> (try simp only [decide_eq_true_eq, decide_eq_false_iff_not, Bool.not_eq_true', Bool.not_eq_false', Int.not_lt, Int.not_le] at h) <;> (try (exfalso; omega))))
  · exact end1 rfl rfl ⟨ri (by unfold pickI; rw [if_pos h]), S.below⟩
  · exact end1 rfl rfl ⟨ri (by unfold pickI; rw [if_neg (by omega)]), S.below⟩
theorem pickC_is {c n x : Int} {w : World} (hx : pickI c n = x) (hc0 : -9223372036854775808 ≤ c) (hc : c ≤ 9223372036854775807) (hn : 0 < n) : CallsV Tryd.prog 39 #[.int .i64 c, .int .i64 n] w (.int .i64 x) := by
  rw [← hx]; exact pickC_spec hc0 hc hn

def keptN (cnt : List GSpot) (x : GSpot) : Int := (cnt.countP fun s => decide (s = x) : Nat)
theorem keptN_snoc {cnt : List GSpot} {x y : GSpot} : keptN (cnt ++ [y]) x = keptN cnt x + (if y = x then 1 else 0) := by
  unfold keptN
  rw [List.countP_append, List.countP_singleton]
  by_cases h : y = x
  · simp [h]
  · simp [h]
theorem keptN_le {cnt : List GSpot} {x : GSpot} : 0 ≤ keptN cnt x ∧ keptN cnt x ≤ cnt.length := by
  unfold keptN; have := List.countP_le_length (p := fun s : GSpot => decide (s = x)) (l := cnt); omega
abbrev RowS (w0 : World) (r : List GSpot) (n : Int) (v : Value) (w' : World) : Prop := ∃ vo, v = .tuple #[vo, .int .i64 n] ∧ NewRow fGSpot 63 w0 w' vo r
theorem one_sp : ∀ (x : GSpot), ∀ u ∈ fGSpot.enc x, u.oneCell' = true := by intro x u hu; simp [fGSpot, GSpot.enc] at hu; rcases hu with rfl | rfl <;> rfl
end Go.Proofs.YtijnbpnficcpmaaDoor
namespace Go.Proofs.YtijnbpnficcpmaaDoor
open Go Go.Gx Go.RowKit
set_option linter.unusedVariables false
set_option linter.unusedSimpArgs false

theorem counted_t {l : List GContract} {sp : List GSpot} (h : okI l sp = true) : countedI l sp = (cntI l sp, 0) := by unfold countedI; rw [h]; rfl
theorem counted_f {l : List GContract} {sp : List GSpot} (h : okI l sp = false) : countedI l sp = ([], 120) := by unfold countedI; rw [h]; rfl
theorem missI_t {cnt : List GSpot} {t : Int} {c : GContract} (h : ¬ t < c.Window.To) : missI cnt t c = c.Count - cntC cnt c.ID := by unfold missI; rw [if_pos (by omega)]
theorem missI_f {cnt : List GSpot} {t : Int} {c : GContract} (h : t < c.Window.To) : missI cnt t c = 0 := by unfold missI; rw [if_neg (by omega)]
end Go.Proofs.YtijnbpnficcpmaaDoor
namespace Go.Proofs.YtijnbpnficcpmaaDoor
open Go Go.Gx Go.RowKit
set_option linter.unusedVariables false
set_option linter.unusedSimpArgs false

def okA8 (x : GArr8Int) : Prop := inI x.a0 ∧ inI x.a1 ∧ inI x.a2 ∧ inI x.a3 ∧ inI x.a4 ∧ inI x.a5 ∧ inI x.a6 ∧ inI x.a7
def okA2 (x : GArr2Int) : Prop := inI x.a0 ∧ inI x.a1
def orW (x d : Int) : Int := bitsOp .or .i64 x (IntKind.i64.wrap (1 * 2 ^ (min d.toNat IntKind.i64.bits)))
def wkF (K : GArr8Int) (d : Nat) : Int := if 0 < pickI K.a6 3 then orW (pickI K.a6 16777216) (d : Int) else 16777215
def wkN (f : Nat → Int) (n : Nat) : GWeek := ⟨if 0 < n then f 0 else 0, if 1 < n then f 1 else 0, if 2 < n then f 2 else 0, if 3 < n then f 3 else 0, if 4 < n then f 4 else 0, if 5 < n then f 5 else 0, if 6 < n then f 6 else 0⟩
def madeC (i : Int) (K : GArr8Int) : GContract := ⟨10 * i + pickI K.a0 10, pickI K.a1 4, pickI K.a2 3, pickI K.a3 200, 1 + pickI K.a3 6, 1 + pickI K.a4 (1 + pickI K.a3 6), pickI K.a4 2000, pickI K.a5 1000, wkN (wkF K) 7, ⟨pickI K.a7 100000, pickI K.a7 100000 + 1 + pickI K.a5 300000⟩⟩
def madeN (xs : List GArr8Int) (n : Nat) : List GContract := (List.range n).map fun (i : Nat) => madeC (i : Int) (nth xs (i : Int))
def madeL (xs : List GArr8Int) : List GContract := madeN xs (min xs.length 8)
theorem madeN_succ (xs : List GArr8Int) (n : Nat) : madeN xs (n + 1) = madeN xs n ++ [madeC (n : Int) (nth xs (n : Int))] := by unfold madeN; rw [List.range_succ, List.map_append]; rfl
theorem madeN_len (xs : List GArr8Int) (n : Nat) : (madeN xs n).length = n := by simp [madeN]
set_option maxHeartbeats 4000000 in
theorem made_run {v : Value} {xs : List GArr8Int} {w0 : World} (hr : Rd fGArr8Int.ty w0 v xs) (hx : ∀ x ∈ xs, okA8 x) (hl : xs.length ≤ maxLen) :
    CallsR Tryd.prog 11 #[v] w0 (fun r w' => NewRow fGContract 70 w0 w' r (madeL xs)) := by
  have S := St.start w0
  have hml : maxLen ≤ 9223372036854775807 := by decide
  obtain ⟨A, c, rfl⟩ := hr.len
  refine CallsR.mk ?_
  refine calls_enter Tryd.func11 rfl (by intro _ h; first | exact nomatch h.1 | (obtain ⟨_, h, _⟩ := h; exact nomatch h)) Tryd.ntmps11 rfl ?_
  repeat' (first | refine WP_seq ?_ | refine WP_region ?_ | refine wl_nil ?_ | refine then_normal ?_ | refine WP_block ?_ | (refine g_assign ?_; refine st_assign rfl ?_))
  replace S := S.nilRow fGContract 70
  refine WP_loop (fun m σ w1 => ∃ (i : Nat) (p : Int) (vo : Value), Has σ [(0, .slice A xs.length c), (3, vo), (4, .int .i64 p)] ∧ St w0 w1 [rowOb fGContract 70 vo (madeN xs i)] ∧ p = i ∧ i ≤ min xs.length 8 ∧ m = 8 - i) 8 ⟨0, _, _, ⟨rfl, rfl, rfl, trivial⟩, S, rfl, by omega, rfl⟩ ?_
  clear S
  rintro m σ w1 ⟨i, p, vo, hs, S, hp, hi1, hm⟩
  refine WP_has hs ?_
  have hol := madeN_len xs i
  by_cases hi : i < min xs.length 8
  · obtain ⟨x0, x1, x2, x3, x4, x5, x6, x7⟩ := hx _ (nth_mem (l := xs) (i := p) (by omega) (by omega))
    unfold inI at x0 x1 x2 x3 x4 x5 x6 x7
    have r0 := pickI_range (c := (nth xs p).a0) (n := 10) (by omega)
    have r3 := pickI_range (c := (nth xs p).a3) (n := 6) (by omega)
    have r4 := pickI_range (c := (nth xs p).a4) (n := 1 + pickI (nth xs p).a3 6) (by omega)
    have r7 := pickI_range (c := (nth xs p).a7) (n := 100000) (by omega)
    have r5 := pickI_range (c := (nth xs p).a5) (n := 300000) (by omega)
    have r6 := pickI_range (c := (nth xs p).a6) (n := 3) (by omega)
    repeat' (first | refine WP_seq ?_ | refine WP_region ?_ | refine wl_nil ?_ | refine then_normal ?_ | refine WP_skip ?_ | refine WP_block ?_ | refine WP_drawTail 10 (by kernel_rfl) (by decide +kernel) ?_ | refine WP_drawGrow 47 48 (by kernel_rfl) (by decide +kernel) ?_ | refine wg_nil ?_ | (refine wg_val rfl (r_alloc S) (by rintro _ _ ⟨b, -, h, -⟩; exact h) ?_; rintro _ w ⟨b, rfl, -, S'⟩ w hb; replace S := S'.grow hb; clear S' hb) | (refine ql_nil ?_; intro w hb; replace S := S.grow hb; clear hb) | (refine g_move ?_; refine st_move rfl ?_) | (refine g_assign ?_; refine st_assign rfl ?_) | (refine g_pick ?_; refine st_pickT rfl rfl ?_) | (refine g_b_lss ?_; refine st_val rfl (r_lss rfl rfl) ?_) | (refine g_c_len ?_; refine st_val rfl (r_lenSlice rfl) ?_) | (refine gq_move ?_; refine q_move rfl ?_) | (refine gq_b_add ?_; (refine q_val rfl (fun w' hb => r_addN rfl rfl ?_ ?_) ?_; (first | omega | (simp <;> omega)); (first | omega | (simp <;> omega)))) | (refine gq_b_mul ?_; (refine q_val rfl (fun w' hb => r_mulN rfl rfl ?_ ?_) ?_; (first | omega | (simp <;> omega)); (first | omega | (simp <;> omega)))) | (refine gq_build ?_; refine q_val rfl (fun w' hb => bd70_0_1_2_3_4_6_7 rfl rfl rfl rfl rfl rfl rfl) ?_) | (refine gq_fieldAddr ?_; refine q_val rfl (fun w' hb => r_fieldAddrL rfl) ?_) | (refine gq_indexAddr ?_; first | (refine q_val rfl (fun w' hb => r_indexAddr (hr.mono (S.grow hb).below) rfl rfl ?_ ?_) ?_; (first | omega | (simp <;> omega)); (first | omega | (simp <;> omega))) | (refine q_val rfl (fun w' hb => r_indexAddrArrE rfl rfl ?_ ?_) ?_; (first | omega | (simp <;> omega)); (first | omega | (simp <;> omega)))) | (refine gq_load ?_; first | (refine q_val rfl (fun w' hb => r_loadElem1 (hr.mono (S.grow hb).below) rfl ?_ ?_ rfl) ?_; (first | omega | (simp <;> omega)); (first | omega | (simp <;> omega))) | (refine q_val rfl (fun w' hb => r_loadElemF (hr.mono (S.grow hb).below) rfl ?_ ?_ rfl) ?_; (first | omega | (simp <;> omega)); (first | omega | (simp <;> omega))) | refine q_val rfl (fun w' hb => r_loadVar (i := 1) (S.grow hb) rfl rfl rfl) ?_) | (refine gq_callV ?_; refine q_callV rfl (fun w' hb => r_call2 rfl rfl rfl) (fun w' hb => pickC_spec (by omega) (by omega) (by omega)) ?_) | (refine g_store ?_; first | (refine st_skipE rfl (r_storeVar (i := 0) S rfl rfl rfl rfl (of_decide_eq_true rfl) (of_decide_eq_true rfl)) ?_; intro w S'; replace S := S'; clear S') | (refine st_skipE rfl (r_storeVar (i := 1) S rfl rfl rfl rfl (of_decide_eq_true rfl) (of_decide_eq_true rfl)) ?_; intro w S'; replace S := S'; clear S')) | (refine wl_split rfl rfl (fun h => ?_) (fun h => ?_) <;> (fail_if_success (have hh : true = true := h)) <;> (fail_if_success (have hh : false = false := h)) <;> (try simp only [decide_eq_true_eq, decide_eq_false_iff_not, Bool.not_eq_true', Bool.not_eq_false', Int.not_lt, Int.not_le] at h) <;> (try (exfalso; omega))) | (refine WP_cond rfl (fun h => ?_) (fun h => ?_) <;> (fail_if_success (have hh : true = true := h)) <;> (fail_if_success (have hh : false = false := h)) <;> (try simp only [decide_eq_true_eq, decide_eq_false_iff_not, Bool.not_eq_true', Bool.not_eq_false', Int.not_lt, Int.not_le] at h) <;> (try (exfalso; omega))))
    refine WP_loop (fun m σ w1 => ∃ (d : Nat) (q : Int) (b : Nat), Has σ [(0, .slice A xs.length c), (3, vo), (4, .int .i64 p), (5, .pointer (some ⟨b, 0, none⟩)), (6, .int .i64 q)] ∧ St w0 w1 [rowOb fGContract 70 vo (madeN xs i), .var b 70 (GContract.enc ⟨10 * p + pickI (nth xs p).a0 10, pickI (nth xs p).a1 4, pickI (nth xs p).a2 3, pickI (nth xs p).a3 200, 1 + pickI (nth xs p).a3 6, 1 + pickI (nth xs p).a4 (1 + pickI (nth xs p).a3 6), pickI (nth xs p).a4 2000, pickI (nth xs p).a5 1000, wkN (wkF (nth xs p)) d, ⟨0, 0⟩⟩)] ∧ q = d ∧ d ≤ 7 ∧ m = 7 - d) 7 ⟨0, _, _, ⟨rfl, rfl, rfl, rfl, rfl, trivial⟩, S, rfl, by omega, rfl⟩ ?_
    clear S hs
    rintro m' σ w1 ⟨d, q, b, hs, S, hq, hd7, hm'⟩
    refine WP_has hs ?_
    by_cases hd : d = 7
    · subst hd
      have hq : q = 7 := by omega
      subst hq
      repeat' (first | refine WP_seq ?_ | refine WP_region ?_ | refine wl_nil ?_ | refine then_normal ?_ | refine then_exit ?_ | refine inB_here ?_ | refine WP_exit ?_ | refine WP_condF rfl ?_ | refine WP_drawTail 13 (by kernel_rfl) (by decide +kernel) ?_ | (refine ql_nil ?_; intro w hb; replace S := S.grow hb; clear hb) | (refine g_move ?_; refine st_move rfl ?_) | (refine g_b_lss ?_; refine st_val rfl (r_lss rfl rfl) ?_) | (refine g_fieldAddr ?_; refine st_val rfl (r_fieldAddrL rfl) ?_) | (refine g_indexAddr ?_; first | (refine st_val rfl (r_indexAddr (hr.mono S.below) rfl rfl ?_ ?_) ?_; (first | omega | (simp <;> omega)); (first | omega | (simp <;> omega))) | (refine st_val rfl (r_indexAddrArrE rfl rfl ?_ ?_) ?_; (first | omega | (simp <;> omega)); (first | omega | (simp <;> omega)))) | (refine g_load ?_; first | (refine st_val rfl (r_loadElemF (hr.mono S.below) rfl ?_ ?_ rfl) ?_; (first | omega | (simp <;> omega)); (first | omega | (simp <;> omega))) | refine st_val rfl (r_loadVarA (i := 1) S rfl rfl rfl rfl) ?_) | (refine g_callV ?_; (refine st_callV rfl (r_call2 rfl rfl rfl) (pickC_spec (by omega) (by omega) (by omega)) ?_; intro w hb; replace S := S.grow hb; clear hb)) | (refine gq_move ?_; refine q_move rfl ?_) | (refine gq_b_add ?_; (refine q_val rfl (fun w' hb => r_addN rfl rfl ?_ ?_) ?_; (first | omega | (simp <;> omega)); (first | omega | (simp <;> omega)))) | (refine gq_fieldAddr ?_; refine q_val rfl (fun w' hb => r_fieldAddrL rfl) ?_) | (refine gq_indexAddr ?_; first | (refine q_val rfl (fun w' hb => r_indexAddr (hr.mono (S.grow hb).below) rfl rfl ?_ ?_) ?_; (first | omega | (simp <;> omega)); (first | omega | (simp <;> omega))) | (refine q_val rfl (fun w' hb => r_indexAddrArrE rfl rfl ?_ ?_) ?_; (first | omega | (simp <;> omega)); (first | omega | (simp <;> omega)))) | (refine gq_load ?_; first | (refine q_val rfl (fun w' hb => r_loadElemF (hr.mono (S.grow hb).below) rfl ?_ ?_ rfl) ?_; (first | omega | (simp <;> omega)); (first | omega | (simp <;> omega))) | refine q_val rfl (fun w' hb => r_loadVar (i := 1) (S.grow hb) rfl rfl rfl) ?_) | (refine gq_callV ?_; refine q_callV rfl (fun w' hb => r_call2 rfl rfl rfl) (fun w' hb => pickC_spec (by omega) (by omega) (by omega)) ?_) | (refine g_store ?_; first | (refine st_skipE rfl (r_storeVar (i := 0) S rfl rfl rfl rfl (of_decide_eq_true rfl) (of_decide_eq_true rfl)) ?_; intro w S'; replace S := S'; clear S') | (refine st_skipE rfl (r_storeVar (i := 1) S rfl rfl rfl rfl (of_decide_eq_true rfl) (of_decide_eq_true rfl)) ?_; intro w S'; replace S := S'; clear S')))
      refine st_valE rfl (r_litF (D := fGContract) [madeC p (nth xs p)] (fun y => .agg y.enc.toArray) S rfl rfl (fun _ => rfl) rfl (by decide) (by decide)) ?_
      rintro _ w ⟨bl, rfl, -, hcl, S'⟩; replace S := S'; clear S'
      refine st_valE rfl (r_append1 (D := fGContract) (i := 0) (b := bl) (x := madeC p (nth xs p)) S rfl rfl rfl (fl_one hcl) rfl (by decide) (of_decide_eq_true rfl) (by omega) (by omega)) ?_
      rintro vo' w ⟨-, S'⟩; replace S := S'; clear S' hcl
      repeat' (first | refine WP_region ?_ | refine wl_nil ?_ | refine then_normal ?_ | refine inB_normal ?_ | (refine g_move ?_; refine st_move rfl ?_) | (refine g_assign ?_; refine st_assign rfl ?_) | (refine g_b_add ?_; (refine st_val rfl (r_addN rfl rfl ?_ ?_) ?_; (first | omega | (simp <;> omega)); (first | omega | (simp <;> omega)))))
      refine ⟨⟨_, ?_, i + 1, _, vo', ⟨rfl, rfl, rfl, trivial⟩, by rw [madeN_succ, ← hp]; exact S.keep [true], by omega, by omega, rfl⟩⟩
      omega
    have hdc : d = 0 ∨ d = 1 ∨ d = 2 ∨ d = 3 ∨ d = 4 ∨ d = 5 ∨ d = 6 := by omega
    by_cases h6 : 0 < pickI (nth xs p).a6 3
    · have ef : ∀ d : Nat, wkF (nth xs p) d = orW (pickI (nth xs p).a6 16777216) (d : Int) := fun d => if_pos h6
      rcases hdc with rfl | rfl | rfl | rfl | rfl | rfl | rfl
      · have hq : q = 0 := by omega
        subst hq
        repeat' (first | refine WP_seq ?_ | refine WP_region ?_ | refine wl_nil ?_ | refine then_normal ?_ | refine inB_normal ?_ | refine WP_skip ?_ | refine WP_block ?_ | refine WP_condT rfl ?_ | refine WP_drawTail 12 (by kernel_rfl) (by decide +kernel) ?_ | (refine ql_nil ?_; intro w hb; replace S := S.grow hb; clear hb) | (refine g_move ?_; refine st_move rfl ?_) | (refine g_assign ?_; refine st_assign rfl ?_) | (refine g_b_add ?_; (refine st_val rfl (r_addN rfl rfl ?_ ?_) ?_; (first | omega | (simp <;> omega)); (first | omega | (simp <;> omega)))) | (refine g_b_lss ?_; refine st_val rfl (r_lss rfl rfl) ?_) | (refine g_b_gtr ?_; refine st_val rfl (r_gtr rfl rfl) ?_) | (refine g_fieldAddr ?_; refine st_val rfl (r_fieldAddrL rfl) ?_) | (refine g_indexAddr ?_; first | (refine st_val rfl (r_indexAddr (hr.mono S.below) rfl rfl ?_ ?_) ?_; (first | omega | (simp <;> omega)); (first | omega | (simp <;> omega))) | (refine st_val rfl (r_indexAddrArrE rfl rfl ?_ ?_) ?_; (first | omega | (simp <;> omega)); (first | omega | (simp <;> omega))) | (refine st_val rfl (r_indexAddrArrL rfl rfl ?_ ?_) ?_; (first | omega | (simp <;> omega)); (first | omega | (simp <;> omega)))) | (refine g_load ?_; (refine st_val rfl (r_loadElemF (hr.mono S.below) rfl ?_ ?_ rfl) ?_; (first | omega | (simp <;> omega)); (first | omega | (simp <;> omega)))) | (refine g_callV ?_; (refine st_callV rfl (r_call2 rfl rfl rfl) (pickC_spec (by omega) (by omega) (by omega)) ?_; intro w hb; replace S := S.grow hb; clear hb)) | (refine gq_move ?_; refine q_move rfl ?_) | (refine gq_b_or ?_; refine q_val rfl (fun w' hb => r_or rfl rfl) ?_) | (refine gq_b_shl ?_; (refine q_val rfl (fun w' hb => r_shl rfl rfl ?_) ?_; (first | omega | (simp <;> omega)))) | (refine gq_fieldAddr ?_; refine q_val rfl (fun w' hb => r_fieldAddrL rfl) ?_) | (refine gq_indexAddr ?_; first | (refine q_val rfl (fun w' hb => r_indexAddr (hr.mono (S.grow hb).below) rfl rfl ?_ ?_) ?_; (first | omega | (simp <;> omega)); (first | omega | (simp <;> omega))) | (refine q_val rfl (fun w' hb => r_indexAddrArrE rfl rfl ?_ ?_) ?_; (first | omega | (simp <;> omega)); (first | omega | (simp <;> omega))) | (refine q_val rfl (fun w' hb => r_indexAddrArrL rfl rfl ?_ ?_) ?_; (first | omega | (simp <;> omega)); (first | omega | (simp <;> omega)))) | (refine gq_load ?_; (refine q_val rfl (fun w' hb => r_loadElemF (hr.mono (S.grow hb).below) rfl ?_ ?_ rfl) ?_; (first | omega | (simp <;> omega)); (first | omega | (simp <;> omega)))) | (refine gq_callV ?_; refine q_callV rfl (fun w' hb => r_call2 rfl rfl rfl) (fun w' hb => pickC_spec (by omega) (by omega) (by omega)) ?_) | (refine g_store ?_; first | (refine st_skipE rfl (r_storeVar (i := 0) S rfl rfl rfl rfl (of_decide_eq_true rfl) (of_decide_eq_true rfl)) ?_; intro w S'; replace S := S'; clear S') | (refine st_skipE rfl (r_storeVar (i := 1) S rfl rfl rfl rfl (of_decide_eq_true rfl) (of_decide_eq_true rfl)) ?_; intro w S'; replace S := S'; clear S')) | (refine WP_cond rfl (fun h => ?_) (fun h => ?_) <;> (fail_if_success (have hh : true = true := h)) <;> (fail_if_success (have hh : false = false := h)) <;> (try simp only [decide_eq_true_eq, decide_eq_false_iff_not, Bool.not_eq_true', Bool.not_eq_false', Int.not_lt, Int.not_le] at h) <;> (try (exfalso; omega))))
        all_goals
          refine ⟨⟨_, ?_, 1, _, b, ⟨rfl, rfl, rfl, rfl, rfl, trivial⟩, ?_, by omega, by omega, rfl⟩⟩
          · omega
          · simp only [wkN, ef] at S ⊢
            exact S
      · have hq : q = 1 := by omega
        subst hq
        repeat' (first | refine WP_seq ?_ | refine WP_region ?_ | refine wl_nil ?_ | refine then_normal ?_ | refine inB_normal ?_ | refine WP_skip ?_ | refine WP_block ?_ | refine WP_condT rfl ?_ | refine WP_drawTail 12 (by kernel_rfl) (by decide +kernel) ?_ | (refine ql_nil ?_; intro w hb; replace S := S.grow hb; clear hb) | (refine g_move ?_; refine st_move rfl ?_) | (refine g_assign ?_; refine st_assign rfl ?_) | (refine g_b_add ?_; (refine st_val rfl (r_addN rfl rfl ?_ ?_) ?_; (first | omega | (simp <;> omega)); (first | omega | (simp <;> omega)))) | (refine g_b_lss ?_; refine st_val rfl (r_lss rfl rfl) ?_) | (refine g_b_gtr ?_; refine st_val rfl (r_gtr rfl rfl) ?_) | (refine g_fieldAddr ?_; refine st_val rfl (r_fieldAddrL rfl) ?_) | (refine g_indexAddr ?_; first | (refine st_val rfl (r_indexAddr (hr.mono S.below) rfl rfl ?_ ?_) ?_; (first | omega | (simp <;> omega)); (first | omega | (simp <;> omega))) | (refine st_val rfl (r_indexAddrArrE rfl rfl ?_ ?_) ?_; (first | omega | (simp <;> omega)); (first | omega | (simp <;> omega))) | (refine st_val rfl (r_indexAddrArrL rfl rfl ?_ ?_) ?_; (first | omega | (simp <;> omega)); (first | omega | (simp <;> omega)))) | (refine g_load ?_; (refine st_val rfl (r_loadElemF (hr.mono S.below) rfl ?_ ?_ rfl) ?_; (first | omega | (simp <;> omega)); (first | omega | (simp <;> omega)))) | (refine g_callV ?_; (refine st_callV rfl (r_call2 rfl rfl rfl) (pickC_spec (by omega) (by omega) (by omega)) ?_; intro w hb; replace S := S.grow hb; clear hb)) | (refine gq_move ?_; refine q_move rfl ?_) | (refine gq_b_or ?_; refine q_val rfl (fun w' hb => r_or rfl rfl) ?_) | (refine gq_b_shl ?_; (refine q_val rfl (fun w' hb => r_shl rfl rfl ?_) ?_; (first | omega | (simp <;> omega)))) | (refine gq_fieldAddr ?_; refine q_val rfl (fun w' hb => r_fieldAddrL rfl) ?_) | (refine gq_indexAddr ?_; first | (refine q_val rfl (fun w' hb => r_indexAddr (hr.mono (S.grow hb).below) rfl rfl ?_ ?_) ?_; (first | omega | (simp <;> omega)); (first | omega | (simp <;> omega))) | (refine q_val rfl (fun w' hb => r_indexAddrArrE rfl rfl ?_ ?_) ?_; (first | omega | (simp <;> omega)); (first | omega | (simp <;> omega))) | (refine q_val rfl (fun w' hb => r_indexAddrArrL rfl rfl ?_ ?_) ?_; (first | omega | (simp <;> omega)); (first | omega | (simp <;> omega)))) | (refine gq_load ?_; (refine q_val rfl (fun w' hb => r_loadElemF (hr.mono (S.grow hb).below) rfl ?_ ?_ rfl) ?_; (first | omega | (simp <;> omega)); (first | omega | (simp <;> omega)))) | (refine gq_callV ?_; refine q_callV rfl (fun w' hb => r_call2 rfl rfl rfl) (fun w' hb => pickC_spec (by omega) (by omega) (by omega)) ?_) | (refine g_store ?_; first | (refine st_skipE rfl (r_storeVar (i := 0) S rfl rfl rfl rfl (of_decide_eq_true rfl) (of_decide_eq_true rfl)) ?_; intro w S'; replace S := S'; clear S') | (refine st_skipE rfl (r_storeVar (i := 1) S rfl rfl rfl rfl (of_decide_eq_true rfl) (of_decide_eq_true rfl)) ?_; intro w S'; replace S := S'; clear S')) | (refine WP_cond rfl (fun h => ?_) (fun h => ?_) <;> (fail_if_success (have hh : true = true := h)) <;> (fail_if_success (have hh : false = false := h)) <;> (try simp only [decide_eq_true_eq, decide_eq_false_iff_not, Bool.not_eq_true', Bool.not_eq_false', Int.not_lt, Int.not_le] at h) <;> (try (exfalso; omega))))
        all_goals
          refine ⟨⟨_, ?_, 2, _, b, ⟨rfl, rfl, rfl, rfl, rfl, trivial⟩, ?_, by omega, by omega, rfl⟩⟩
          · omega
          · simp only [wkN, ef] at S ⊢
            exact S
      · have hq : q = 2 := by omega
        subst hq
        repeat' (first | refine WP_seq ?_ | refine WP_region ?_ | refine wl_nil ?_ | refine then_normal ?_ | refine inB_normal ?_ | refine WP_skip ?_ | refine WP_block ?_ | refine WP_condT rfl ?_ | refine WP_drawTail 12 (by kernel_rfl) (by decide +kernel) ?_ | (refine ql_nil ?_; intro w hb; replace S := S.grow hb; clear hb) | (refine g_move ?_; refine st_move rfl ?_) | (refine g_assign ?_; refine st_assign rfl ?_) | (refine g_b_add ?_; (refine st_val rfl (r_addN rfl rfl ?_ ?_) ?_; (first | omega | (simp <;> omega)); (first | omega | (simp <;> omega)))) | (refine g_b_lss ?_; refine st_val rfl (r_lss rfl rfl) ?_) | (refine g_b_gtr ?_; refine st_val rfl (r_gtr rfl rfl) ?_) | (refine g_fieldAddr ?_; refine st_val rfl (r_fieldAddrL rfl) ?_) | (refine g_indexAddr ?_; first | (refine st_val rfl (r_indexAddr (hr.mono S.below) rfl rfl ?_ ?_) ?_; (first | omega | (simp <;> omega)); (first | omega | (simp <;> omega))) | (refine st_val rfl (r_indexAddrArrE rfl rfl ?_ ?_) ?_; (first | omega | (simp <;> omega)); (first | omega | (simp <;> omega))) | (refine st_val rfl (r_indexAddrArrL rfl rfl ?_ ?_) ?_; (first | omega | (simp <;> omega)); (first | omega | (simp <;> omega)))) | (refine g_load ?_; (refine st_val rfl (r_loadElemF (hr.mono S.below) rfl ?_ ?_ rfl) ?_; (first | omega | (simp <;> omega)); (first | omega | (simp <;> omega)))) | (refine g_callV ?_; (refine st_callV rfl (r_call2 rfl rfl rfl) (pickC_spec (by omega) (by omega) (by omega)) ?_; intro w hb; replace S := S.grow hb; clear hb)) | (refine gq_move ?_; refine q_move rfl ?_) | (refine gq_b_or ?_; refine q_val rfl (fun w' hb => r_or rfl rfl) ?_) | (refine gq_b_shl ?_; (refine q_val rfl (fun w' hb => r_shl rfl rfl ?_) ?_; (first | omega | (simp <;> omega)))) | (refine gq_fieldAddr ?_; refine q_val rfl (fun w' hb => r_fieldAddrL rfl) ?_) | (refine gq_indexAddr ?_; first | (refine q_val rfl (fun w' hb => r_indexAddr (hr.mono (S.grow hb).below) rfl rfl ?_ ?_) ?_; (first | omega | (simp <;> omega)); (first | omega | (simp <;> omega))) | (refine q_val rfl (fun w' hb => r_indexAddrArrE rfl rfl ?_ ?_) ?_; (first | omega | (simp <;> omega)); (first | omega | (simp <;> omega))) | (refine q_val rfl (fun w' hb => r_indexAddrArrL rfl rfl ?_ ?_) ?_; (first | omega | (simp <;> omega)); (first | omega | (simp <;> omega)))) | (refine gq_load ?_; (refine q_val rfl (fun w' hb => r_loadElemF (hr.mono (S.grow hb).below) rfl ?_ ?_ rfl) ?_; (first | omega | (simp <;> omega)); (first | omega | (simp <;> omega)))) | (refine gq_callV ?_; refine q_callV rfl (fun w' hb => r_call2 rfl rfl rfl) (fun w' hb => pickC_spec (by omega) (by omega) (by omega)) ?_) | (refine g_store ?_; first | (refine st_skipE rfl (r_storeVar (i := 0) S rfl rfl rfl rfl (of_decide_eq_true rfl) (of_decide_eq_true rfl)) ?_; intro w S'; replace S := S'; clear S') | (refine st_skipE rfl (r_storeVar (i := 1) S rfl rfl rfl rfl (of_decide_eq_true rfl) (of_decide_eq_true rfl)) ?_; intro w S'; replace S := S'; clear S')) | (refine WP_cond rfl (fun h => ?_) (fun h => ?_) <;> (fail_if_success (have hh : true = true := h)) <;> (fail_if_success (have hh : false = false := h)) <;> (try simp only [decide_eq_true_eq, decide_eq_false_iff_not, Bool.not_eq_true', Bool.not_eq_false', Int.not_lt, Int.not_le] at h) <;> (try (exfalso; omega))))
        all_goals
          refine ⟨⟨_, ?_, 3, _, b, ⟨rfl, rfl, rfl, rfl, rfl, trivial⟩, ?_, by omega, by omega, rfl⟩⟩
          · omega
          · simp only [wkN, ef] at S ⊢
            exact S
      · have hq : q = 3 := by omega
        subst hq
        repeat' (first | refine WP_seq ?_ | refine WP_region ?_ | refine wl_nil ?_ | refine then_normal ?_ | refine inB_normal ?_ | refine WP_skip ?_ | refine WP_block ?_ | refine WP_condT rfl ?_ | refine WP_drawTail 12 (by kernel_rfl) (by decide +kernel) ?_ | (refine ql_nil ?_; intro w hb; replace S := S.grow hb; clear hb) | (refine g_move ?_; refine st_move rfl ?_) | (refine g_assign ?_; refine st_assign rfl ?_) | (refine g_b_add ?_; (refine st_val rfl (r_addN rfl rfl ?_ ?_) ?_; (first | omega | (simp <;> omega)); (first | omega | (simp <;> omega)))) | (refine g_b_lss ?_; refine st_val rfl (r_lss rfl rfl) ?_) | (refine g_b_gtr ?_; refine st_val rfl (r_gtr rfl rfl) ?_) | (refine g_fieldAddr ?_; refine st_val rfl (r_fieldAddrL rfl) ?_) | (refine g_indexAddr ?_; first | (refine st_val rfl (r_indexAddr (hr.mono S.below) rfl rfl ?_ ?_) ?_; (first | omega | (simp <;> omega)); (first | omega | (simp <;> omega))) | (refine st_val rfl (r_indexAddrArrE rfl rfl ?_ ?_) ?_; (first | omega | (simp <;> omega)); (first | omega | (simp <;> omega))) | (refine st_val rfl (r_indexAddrArrL rfl rfl ?_ ?_) ?_; (first | omega | (simp <;> omega)); (first | omega | (simp <;> omega)))) | (refine g_load ?_; (refine st_val rfl (r_loadElemF (hr.mono S.below) rfl ?_ ?_ rfl) ?_; (first | omega | (simp <;> omega)); (first | omega | (simp <;> omega)))) | (refine g_callV ?_; (refine st_callV rfl (r_call2 rfl rfl rfl) (pickC_spec (by omega) (by omega) (by omega)) ?_; intro w hb; replace S := S.grow hb; clear hb)) | (refine gq_move ?_; refine q_move rfl ?_) | (refine gq_b_or ?_; refine q_val rfl (fun w' hb => r_or rfl rfl) ?_) | (refine gq_b_shl ?_; (refine q_val rfl (fun w' hb => r_shl rfl rfl ?_) ?_; (first | omega | (simp <;> omega)))) | (refine gq_fieldAddr ?_; refine q_val rfl (fun w' hb => r_fieldAddrL rfl) ?_) | (refine gq_indexAddr ?_; first | (refine q_val rfl (fun w' hb => r_indexAddr (hr.mono (S.grow hb).below) rfl rfl ?_ ?_) ?_; (first | omega | (simp <;> omega)); (first | omega | (simp <;> omega))) | (refine q_val rfl (fun w' hb => r_indexAddrArrE rfl rfl ?_ ?_) ?_; (first | omega | (simp <;> omega)); (first | omega | (simp <;> omega))) | (refine q_val rfl (fun w' hb => r_indexAddrArrL rfl rfl ?_ ?_) ?_; (first | omega | (simp <;> omega)); (first | omega | (simp <;> omega)))) | (refine gq_load ?_; (refine q_val rfl (fun w' hb => r_loadElemF (hr.mono (S.grow hb).below) rfl ?_ ?_ rfl) ?_; (first | omega | (simp <;> omega)); (first | omega | (simp <;> omega)))) | (refine gq_callV ?_; refine q_callV rfl (fun w' hb => r_call2 rfl rfl rfl) (fun w' hb => pickC_spec (by omega) (by omega) (by omega)) ?_) | (refine g_store ?_; first | (refine st_skipE rfl (r_storeVar (i := 0) S rfl rfl rfl rfl (of_decide_eq_true rfl) (of_decide_eq_true rfl)) ?_; intro w S'; replace S := S'; clear S') | (refine st_skipE rfl (r_storeVar (i := 1) S rfl rfl rfl rfl (of_decide_eq_true rfl) (of_decide_eq_true rfl)) ?_; intro w S'; replace S := S'; clear S')) | (refine WP_cond rfl (fun h => ?_) (fun h => ?_) <;> (fail_if_success (have hh : true = true := h)) <;> (fail_if_success (have hh : false = false := h)) <;> (try simp only [decide_eq_true_eq, decide_eq_false_iff_not, Bool.not_eq_true', Bool.not_eq_false', Int.not_lt, Int.not_le] at h) <;> (try (exfalso; omega))))
        all_goals
          refine ⟨⟨_, ?_, 4, _, b, ⟨rfl, rfl, rfl, rfl, rfl, trivial⟩, ?_, by omega, by omega, rfl⟩⟩
          · omega
          · simp only [wkN, ef] at S ⊢
            exact S
      · have hq : q = 4 := by omega
        subst hq
        repeat' (first | refine WP_seq ?_ | refine WP_region ?_ | refine wl_nil ?_ | refine then_normal ?_ | refine inB_normal ?_ | refine WP_skip ?_ | refine WP_block ?_ | refine WP_condT rfl ?_ | refine WP_drawTail 12 (by kernel_rfl) (by decide +kernel) ?_ | (refine ql_nil ?_; intro w hb; replace S := S.grow hb; clear hb) | (refine g_move ?_; refine st_move rfl ?_) | (refine g_assign ?_; refine st_assign rfl ?_) | (refine g_b_add ?_; (refine st_val rfl (r_addN rfl rfl ?_ ?_) ?_; (first | omega | (simp <;> omega)); (first | omega | (simp <;> omega)))) | (refine g_b_lss ?_; refine st_val rfl (r_lss rfl rfl) ?_) | (refine g_b_gtr ?_; refine st_val rfl (r_gtr rfl rfl) ?_) | (refine g_fieldAddr ?_; refine st_val rfl (r_fieldAddrL rfl) ?_) | (refine g_indexAddr ?_; first | (refine st_val rfl (r_indexAddr (hr.mono S.below) rfl rfl ?_ ?_) ?_; (first | omega | (simp <;> omega)); (first | omega | (simp <;> omega))) | (refine st_val rfl (r_indexAddrArrE rfl rfl ?_ ?_) ?_; (first | omega | (simp <;> omega)); (first | omega | (simp <;> omega))) | (refine st_val rfl (r_indexAddrArrL rfl rfl ?_ ?_) ?_; (first | omega | (simp <;> omega)); (first | omega | (simp <;> omega)))) | (refine g_load ?_; (refine st_val rfl (r_loadElemF (hr.mono S.below) rfl ?_ ?_ rfl) ?_; (first | omega | (simp <;> omega)); (first | omega | (simp <;> omega)))) | (refine g_callV ?_; (refine st_callV rfl (r_call2 rfl rfl rfl) (pickC_spec (by omega) (by omega) (by omega)) ?_; intro w hb; replace S := S.grow hb; clear hb)) | (refine gq_move ?_; refine q_move rfl ?_) | (refine gq_b_or ?_; refine q_val rfl (fun w' hb => r_or rfl rfl) ?_) | (refine gq_b_shl ?_; (refine q_val rfl (fun w' hb => r_shl rfl rfl ?_) ?_; (first | omega | (simp <;> omega)))) | (refine gq_fieldAddr ?_; refine q_val rfl (fun w' hb => r_fieldAddrL rfl) ?_) | (refine gq_indexAddr ?_; first | (refine q_val rfl (fun w' hb => r_indexAddr (hr.mono (S.grow hb).below) rfl rfl ?_ ?_) ?_; (first | omega | (simp <;> omega)); (first | omega | (simp <;> omega))) | (refine q_val rfl (fun w' hb => r_indexAddrArrE rfl rfl ?_ ?_) ?_; (first | omega | (simp <;> omega)); (first | omega | (simp <;> omega))) | (refine q_val rfl (fun w' hb => r_indexAddrArrL rfl rfl ?_ ?_) ?_; (first | omega | (simp <;> omega)); (first | omega | (simp <;> omega)))) | (refine gq_load ?_; (refine q_val rfl (fun w' hb => r_loadElemF (hr.mono (S.grow hb).below) rfl ?_ ?_ rfl) ?_; (first | omega | (simp <;> omega)); (first | omega | (simp <;> omega)))) | (refine gq_callV ?_; refine q_callV rfl (fun w' hb => r_call2 rfl rfl rfl) (fun w' hb => pickC_spec (by omega) (by omega) (by omega)) ?_) | (refine g_store ?_; first | (refine st_skipE rfl (r_storeVar (i := 0) S rfl rfl rfl rfl (of_decide_eq_true rfl) (of_decide_eq_true rfl)) ?_; intro w S'; replace S := S'; clear S') | (refine st_skipE rfl (r_storeVar (i := 1) S rfl rfl rfl rfl (of_decide_eq_true rfl) (of_decide_eq_true rfl)) ?_; intro w S'; replace S := S'; clear S')) | (refine WP_cond rfl (fun h => ?_) (fun h => ?_) <;> (fail_if_success (have hh : true = true := h)) <;> (fail_if_success (have hh : false = false := h)) <;> (try simp only [decide_eq_true_eq, decide_eq_false_iff_not, Bool.not_eq_true', Bool.not_eq_false', Int.not_lt, Int.not_le] at h) <;> (try (exfalso; omega))))
        all_goals
          refine ⟨⟨_, ?_, 5, _, b, ⟨rfl, rfl, rfl, rfl, rfl, trivial⟩, ?_, by omega, by omega, rfl⟩⟩
          · omega
          · simp only [wkN, ef] at S ⊢
            exact S
      · have hq : q = 5 := by omega
        subst hq
        repeat' (first | refine WP_seq ?_ | refine WP_region ?_ | refine wl_nil ?_ | refine then_normal ?_ | refine inB_normal ?_ | refine WP_skip ?_ | refine WP_block ?_ | refine WP_condT rfl ?_ | refine WP_drawTail 12 (by kernel_rfl) (by decide +kernel) ?_ | (refine ql_nil ?_; intro w hb; replace S := S.grow hb; clear hb) | (refine g_move ?_; refine st_move rfl ?_) | (refine g_assign ?_; refine st_assign rfl ?_) | (refine g_b_add ?_; (refine st_val rfl (r_addN rfl rfl ?_ ?_) ?_; (first | omega | (simp <;> omega)); (first | omega | (simp <;> omega)))) | (refine g_b_lss ?_; refine st_val rfl (r_lss rfl rfl) ?_) | (refine g_b_gtr ?_; refine st_val rfl (r_gtr rfl rfl) ?_) | (refine g_fieldAddr ?_; refine st_val rfl (r_fieldAddrL rfl) ?_) | (refine g_indexAddr ?_; first | (refine st_val rfl (r_indexAddr (hr.mono S.below) rfl rfl ?_ ?_) ?_; (first | omega | (simp <;> omega)); (first | omega | (simp <;> omega))) | (refine st_val rfl (r_indexAddrArrE rfl rfl ?_ ?_) ?_; (first | omega | (simp <;> omega)); (first | omega | (simp <;> omega))) | (refine st_val rfl (r_indexAddrArrL rfl rfl ?_ ?_) ?_; (first | omega | (simp <;> omega)); (first | omega | (simp <;> omega)))) | (refine g_load ?_; (refine st_val rfl (r_loadElemF (hr.mono S.below) rfl ?_ ?_ rfl) ?_; (first | omega | (simp <;> omega)); (first | omega | (simp <;> omega)))) | (refine g_callV ?_; (refine st_callV rfl (r_call2 rfl rfl rfl) (pickC_spec (by omega) (by omega) (by omega)) ?_; intro w hb; replace S := S.grow hb; clear hb)) | (refine gq_move ?_; refine q_move rfl ?_) | (refine gq_b_or ?_; refine q_val rfl (fun w' hb => r_or rfl rfl) ?_) | (refine gq_b_shl ?_; (refine q_val rfl (fun w' hb => r_shl rfl rfl ?_) ?_; (first | omega | (simp <;> omega)))) | (refine gq_fieldAddr ?_; refine q_val rfl (fun w' hb => r_fieldAddrL rfl) ?_) | (refine gq_indexAddr ?_; first | (refine q_val rfl (fun w' hb => r_indexAddr (hr.mono (S.grow hb).below) rfl rfl ?_ ?_) ?_; (first | omega | (simp <;> omega)); (first | omega | (simp <;> omega))) | (refine q_val rfl (fun w' hb => r_indexAddrArrE rfl rfl ?_ ?_) ?_; (first | omega | (simp <;> omega)); (first | omega | (simp <;> omega))) | (refine q_val rfl (fun w' hb => r_indexAddrArrL rfl rfl ?_ ?_) ?_; (first | omega | (simp <;> omega)); (first | omega | (simp <;> omega)))) | (refine gq_load ?_; (refine q_val rfl (fun w' hb => r_loadElemF (hr.mono (S.grow hb).below) rfl ?_ ?_ rfl) ?_; (first | omega | (simp <;> omega)); (first | omega | (simp <;> omega)))) | (refine gq_callV ?_; refine q_callV rfl (fun w' hb => r_call2 rfl rfl rfl) (fun w' hb => pickC_spec (by omega) (by omega) (by omega)) ?_) | (refine g_store ?_; first | (refine st_skipE rfl (r_storeVar (i := 0) S rfl rfl rfl rfl (of_decide_eq_true rfl) (of_decide_eq_true rfl)) ?_; intro w S'; replace S := S'; clear S') | (refine st_skipE rfl (r_storeVar (i := 1) S rfl rfl rfl rfl (of_decide_eq_true rfl) (of_decide_eq_true rfl)) ?_; intro w S'; replace S := S'; clear S')) | (refine WP_cond rfl (fun h => ?_) (fun h => ?_) <;> (fail_if_success (have hh : true = true := h)) <;> (fail_if_success (have hh : false = false := h)) <;> (try simp only [decide_eq_true_eq, decide_eq_false_iff_not, Bool.not_eq_true', Bool.not_eq_false', Int.not_lt, Int.not_le] at h) <;> (try (exfalso; omega))))
        all_goals
          refine ⟨⟨_, ?_, 6, _, b, ⟨rfl, rfl, rfl, rfl, rfl, trivial⟩, ?_, by omega, by omega, rfl⟩⟩
          · omega
          · simp only [wkN, ef] at S ⊢
            exact S
      · have hq : q = 6 := by omega
        subst hq
        repeat' (first | refine WP_seq ?_ | refine WP_region ?_ | refine wl_nil ?_ | refine then_normal ?_ | refine inB_normal ?_ | refine WP_skip ?_ | refine WP_block ?_ | refine WP_condT rfl ?_ | refine WP_drawTail 12 (by kernel_rfl) (by decide +kernel) ?_ | (refine ql_nil ?_; intro w hb; replace S := S.grow hb; clear hb) | (refine g_move ?_; refine st_move rfl ?_) | (refine g_assign ?_; refine st_assign rfl ?_) | (refine g_b_add ?_; (refine st_val rfl (r_addN rfl rfl ?_ ?_) ?_; (first | omega | (simp <;> omega)); (first | omega | (simp <;> omega)))) | (refine g_b_lss ?_; refine st_val rfl (r_lss rfl rfl) ?_) | (refine g_b_gtr ?_; refine st_val rfl (r_gtr rfl rfl) ?_) | (refine g_fieldAddr ?_; refine st_val rfl (r_fieldAddrL rfl) ?_) | (refine g_indexAddr ?_; first | (refine st_val rfl (r_indexAddr (hr.mono S.below) rfl rfl ?_ ?_) ?_; (first | omega | (simp <;> omega)); (first | omega | (simp <;> omega))) | (refine st_val rfl (r_indexAddrArrE rfl rfl ?_ ?_) ?_; (first | omega | (simp <;> omega)); (first | omega | (simp <;> omega))) | (refine st_val rfl (r_indexAddrArrL rfl rfl ?_ ?_) ?_; (first | omega | (simp <;> omega)); (first | omega | (simp <;> omega)))) | (refine g_load ?_; (refine st_val rfl (r_loadElemF (hr.mono S.below) rfl ?_ ?_ rfl) ?_; (first | omega | (simp <;> omega)); (first | omega | (simp <;> omega)))) | (refine g_callV ?_; (refine st_callV rfl (r_call2 rfl rfl rfl) (pickC_spec (by omega) (by omega) (by omega)) ?_; intro w hb; replace S := S.grow hb; clear hb)) | (refine gq_move ?_; refine q_move rfl ?_) | (refine gq_b_or ?_; refine q_val rfl (fun w' hb => r_or rfl rfl) ?_) | (refine gq_b_shl ?_; (refine q_val rfl (fun w' hb => r_shl rfl rfl ?_) ?_; (first | omega | (simp <;> omega)))) | (refine gq_fieldAddr ?_; refine q_val rfl (fun w' hb => r_fieldAddrL rfl) ?_) | (refine gq_indexAddr ?_; first | (refine q_val rfl (fun w' hb => r_indexAddr (hr.mono (S.grow hb).below) rfl rfl ?_ ?_) ?_; (first | omega | (simp <;> omega)); (first | omega | (simp <;> omega))) | (refine q_val rfl (fun w' hb => r_indexAddrArrE rfl rfl ?_ ?_) ?_; (first | omega | (simp <;> omega)); (first | omega | (simp <;> omega))) | (refine q_val rfl (fun w' hb => r_indexAddrArrL rfl rfl ?_ ?_) ?_; (first | omega | (simp <;> omega)); (first | omega | (simp <;> omega)))) | (refine gq_load ?_; (refine q_val rfl (fun w' hb => r_loadElemF (hr.mono (S.grow hb).below) rfl ?_ ?_ rfl) ?_; (first | omega | (simp <;> omega)); (first | omega | (simp <;> omega)))) | (refine gq_callV ?_; refine q_callV rfl (fun w' hb => r_call2 rfl rfl rfl) (fun w' hb => pickC_spec (by omega) (by omega) (by omega)) ?_) | (refine g_store ?_; first | (refine st_skipE rfl (r_storeVar (i := 0) S rfl rfl rfl rfl (of_decide_eq_true rfl) (of_decide_eq_true rfl)) ?_; intro w S'; replace S := S'; clear S') | (refine st_skipE rfl (r_storeVar (i := 1) S rfl rfl rfl rfl (of_decide_eq_true rfl) (of_decide_eq_true rfl)) ?_; intro w S'; replace S := S'; clear S')) | (refine WP_cond rfl (fun h => ?_) (fun h => ?_) <;> (fail_if_success (have hh : true = true := h)) <;> (fail_if_success (have hh : false = false := h)) <;> (try simp only [decide_eq_true_eq, decide_eq_false_iff_not, Bool.not_eq_true', Bool.not_eq_false', Int.not_lt, Int.not_le] at h) <;> (try (exfalso; omega))))
        all_goals
          refine ⟨⟨_, ?_, 7, _, b, ⟨rfl, rfl, rfl, rfl, rfl, trivial⟩, ?_, by omega, by omega, rfl⟩⟩
          · omega
          · simp only [wkN, ef] at S ⊢
            exact S
    · have ef : ∀ d : Nat, wkF (nth xs p) d = 16777215 := fun d => if_neg h6
      rcases hdc with rfl | rfl | rfl | rfl | rfl | rfl | rfl
      · have hq : q = 0 := by omega
        subst hq
        repeat' (first | refine WP_seq ?_ | refine WP_region ?_ | refine wl_nil ?_ | refine then_normal ?_ | refine inB_normal ?_ | refine WP_skip ?_ | refine WP_block ?_ | refine WP_condT rfl ?_ | (refine g_move ?_; refine st_move rfl ?_) | (refine g_assign ?_; refine st_assign rfl ?_) | (refine g_b_add ?_; (refine st_val rfl (r_addN rfl rfl ?_ ?_) ?_; (first | omega | (simp <;> omega)); (first | omega | (simp <;> omega)))) | (refine g_b_lss ?_; refine st_val rfl (r_lss rfl rfl) ?_) | (refine g_b_gtr ?_; refine st_val rfl (r_gtr rfl rfl) ?_) | (refine g_fieldAddr ?_; refine st_val rfl (r_fieldAddrL rfl) ?_) | (refine g_indexAddr ?_; first | (refine st_val rfl (r_indexAddr (hr.mono S.below) rfl rfl ?_ ?_) ?_; (first | omega | (simp <;> omega)); (first | omega | (simp <;> omega))) | (refine st_val rfl (r_indexAddrArrE rfl rfl ?_ ?_) ?_; (first | omega | (simp <;> omega)); (first | omega | (simp <;> omega))) | (refine st_val rfl (r_indexAddrArrL rfl rfl ?_ ?_) ?_; (first | omega | (simp <;> omega)); (first | omega | (simp <;> omega)))) | (refine g_load ?_; (refine st_val rfl (r_loadElemF (hr.mono S.below) rfl ?_ ?_ rfl) ?_; (first | omega | (simp <;> omega)); (first | omega | (simp <;> omega)))) | (refine g_callV ?_; (refine st_callV rfl (r_call2 rfl rfl rfl) (pickC_spec (by omega) (by omega) (by omega)) ?_; intro w hb; replace S := S.grow hb; clear hb)) | (refine g_store ?_; first | (refine st_skipE rfl (r_storeVar (i := 0) S rfl rfl rfl rfl (of_decide_eq_true rfl) (of_decide_eq_true rfl)) ?_; intro w S'; replace S := S'; clear S') | (refine st_skipE rfl (r_storeVar (i := 1) S rfl rfl rfl rfl (of_decide_eq_true rfl) (of_decide_eq_true rfl)) ?_; intro w S'; replace S := S'; clear S')) | (refine WP_cond rfl (fun h => ?_) (fun h => ?_) <;> (fail_if_success (have hh : true = true := h)) <;> (fail_if_success (have hh : false = false := h)) <;> (try simp only [decide_eq_true_eq, decide_eq_false_iff_not, Bool.not_eq_true', Bool.not_eq_false', Int.not_lt, Int.not_le] at h) <;> (try (exfalso; omega))))
        all_goals
          refine ⟨⟨_, ?_, 1, _, b, ⟨rfl, rfl, rfl, rfl, rfl, trivial⟩, ?_, by omega, by omega, rfl⟩⟩
          · omega
          · simp only [wkN, ef] at S ⊢
            exact S
      · have hq : q = 1 := by omega
        subst hq
        repeat' (first | refine WP_seq ?_ | refine WP_region ?_ | refine wl_nil ?_ | refine then_normal ?_ | refine inB_normal ?_ | refine WP_skip ?_ | refine WP_block ?_ | refine WP_condT rfl ?_ | (refine g_move ?_; refine st_move rfl ?_) | (refine g_assign ?_; refine st_assign rfl ?_) | (refine g_b_add ?_; (refine st_val rfl (r_addN rfl rfl ?_ ?_) ?_; (first | omega | (simp <;> omega)); (first | omega | (simp <;> omega)))) | (refine g_b_lss ?_; refine st_val rfl (r_lss rfl rfl) ?_) | (refine g_b_gtr ?_; refine st_val rfl (r_gtr rfl rfl) ?_) | (refine g_fieldAddr ?_; refine st_val rfl (r_fieldAddrL rfl) ?_) | (refine g_indexAddr ?_; first | (refine st_val rfl (r_indexAddr (hr.mono S.below) rfl rfl ?_ ?_) ?_; (first | omega | (simp <;> omega)); (first | omega | (simp <;> omega))) | (refine st_val rfl (r_indexAddrArrE rfl rfl ?_ ?_) ?_; (first | omega | (simp <;> omega)); (first | omega | (simp <;> omega))) | (refine st_val rfl (r_indexAddrArrL rfl rfl ?_ ?_) ?_; (first | omega | (simp <;> omega)); (first | omega | (simp <;> omega)))) | (refine g_load ?_; (refine st_val rfl (r_loadElemF (hr.mono S.below) rfl ?_ ?_ rfl) ?_; (first | omega | (simp <;> omega)); (first | omega | (simp <;> omega)))) | (refine g_callV ?_; (refine st_callV rfl (r_call2 rfl rfl rfl) (pickC_spec (by omega) (by omega) (by omega)) ?_; intro w hb; replace S := S.grow hb; clear hb)) | (refine g_store ?_; first | (refine st_skipE rfl (r_storeVar (i := 0) S rfl rfl rfl rfl (of_decide_eq_true rfl) (of_decide_eq_true rfl)) ?_; intro w S'; replace S := S'; clear S') | (refine st_skipE rfl (r_storeVar (i := 1) S rfl rfl rfl rfl (of_decide_eq_true rfl) (of_decide_eq_true rfl)) ?_; intro w S'; replace S := S'; clear S')) | (refine WP_cond rfl (fun h => ?_) (fun h => ?_) <;> (fail_if_success (have hh : true = true := h)) <;> (fail_if_success (have hh : false = false := h)) <;> (try simp only [decide_eq_true_eq, decide_eq_false_iff_not, Bool.not_eq_true', Bool.not_eq_false', Int.not_lt, Int.not_le] at h) <;> (try (exfalso; omega))))
        all_goals
          refine ⟨⟨_, ?_, 2, _, b, ⟨rfl, rfl, rfl, rfl, rfl, trivial⟩, ?_, by omega, by omega, rfl⟩⟩
          · omega
          · simp only [wkN, ef] at S ⊢
            exact S
      · have hq : q = 2 := by omega
        subst hq
        repeat' (first | refine WP_seq ?_ | refine WP_region ?_ | refine wl_nil ?_ | refine then_normal ?_ | refine inB_normal ?_ | refine WP_skip ?_ | refine WP_block ?_ | refine WP_condT rfl ?_ | (refine g_move ?_; refine st_move rfl ?_) | (refine g_assign ?_; refine st_assign rfl ?_) | (refine g_b_add ?_; (refine st_val rfl (r_addN rfl rfl ?_ ?_) ?_; (first | omega | (simp <;> omega)); (first | omega | (simp <;> omega)))) | (refine g_b_lss ?_; refine st_val rfl (r_lss rfl rfl) ?_) | (refine g_b_gtr ?_; refine st_val rfl (r_gtr rfl rfl) ?_) | (refine g_fieldAddr ?_; refine st_val rfl (r_fieldAddrL rfl) ?_) | (refine g_indexAddr ?_; first | (refine st_val rfl (r_indexAddr (hr.mono S.below) rfl rfl ?_ ?_) ?_; (first | omega | (simp <;> omega)); (first | omega | (simp <;> omega))) | (refine st_val rfl (r_indexAddrArrE rfl rfl ?_ ?_) ?_; (first | omega | (simp <;> omega)); (first | omega | (simp <;> omega))) | (refine st_val rfl (r_indexAddrArrL rfl rfl ?_ ?_) ?_; (first | omega | (simp <;> omega)); (first | omega | (simp <;> omega)))) | (refine g_load ?_; (refine st_val rfl (r_loadElemF (hr.mono S.below) rfl ?_ ?_ rfl) ?_; (first | omega | (simp <;> omega)); (first | omega | (simp <;> omega)))) | (refine g_callV ?_; (refine st_callV rfl (r_call2 rfl rfl rfl) (pickC_spec (by omega) (by omega) (by omega)) ?_; intro w hb; replace S := S.grow hb; clear hb)) | (refine g_store ?_; first | (refine st_skipE rfl (r_storeVar (i := 0) S rfl rfl rfl rfl (of_decide_eq_true rfl) (of_decide_eq_true rfl)) ?_; intro w S'; replace S := S'; clear S') | (refine st_skipE rfl (r_storeVar (i := 1) S rfl rfl rfl rfl (of_decide_eq_true rfl) (of_decide_eq_true rfl)) ?_; intro w S'; replace S := S'; clear S')) | (refine WP_cond rfl (fun h => ?_) (fun h => ?_) <;> (fail_if_success (have hh : true = true := h)) <;> (fail_if_success (have hh : false = false := h)) <;> (try simp only [decide_eq_true_eq, decide_eq_false_iff_not, Bool.not_eq_true', Bool.not_eq_false', Int.not_lt, Int.not_le] at h) <;> (try (exfalso; omega))))
        all_goals
          refine ⟨⟨_, ?_, 3, _, b, ⟨rfl, rfl, rfl, rfl, rfl, trivial⟩, ?_, by omega, by omega, rfl⟩⟩
          · omega
          · simp only [wkN, ef] at S ⊢
            exact S
      · have hq : q = 3 := by omega
        subst hq
        repeat' (first | refine WP_seq ?_ | refine WP_region ?_ | refine wl_nil ?_ | refine then_normal ?_ | refine inB_normal ?_ | refine WP_skip ?_ | refine WP_block ?_ | refine WP_condT rfl ?_ | (refine g_move ?_; refine st_move rfl ?_) | (refine g_assign ?_; refine st_assign rfl ?_) | (refine g_b_add ?_; (refine st_val rfl (r_addN rfl rfl ?_ ?_) ?_; (first | omega | (simp <;> omega)); (first | omega | (simp <;> omega)))) | (refine g_b_lss ?_; refine st_val rfl (r_lss rfl rfl) ?_) | (refine g_b_gtr ?_; refine st_val rfl (r_gtr rfl rfl) ?_) | (refine g_fieldAddr ?_; refine st_val rfl (r_fieldAddrL rfl) ?_) | (refine g_indexAddr ?_; first | (refine st_val rfl (r_indexAddr (hr.mono S.below) rfl rfl ?_ ?_) ?_; (first | omega | (simp <;> omega)); (first | omega | (simp <;> omega))) | (refine st_val rfl (r_indexAddrArrE rfl rfl ?_ ?_) ?_; (first | omega | (simp <;> omega)); (first | omega | (simp <;> omega))) | (refine st_val rfl (r_indexAddrArrL rfl rfl ?_ ?_) ?_; (first | omega | (simp <;> omega)); (first | omega | (simp <;> omega)))) | (refine g_load ?_; (refine st_val rfl (r_loadElemF (hr.mono S.below) rfl ?_ ?_ rfl) ?_; (first | omega | (simp <;> omega)); (first | omega | (simp <;> omega)))) | (refine g_callV ?_; (refine st_callV rfl (r_call2 rfl rfl rfl) (pickC_spec (by omega) (by omega) (by omega)) ?_; intro w hb; replace S := S.grow hb; clear hb)) | (refine g_store ?_; first | (refine st_skipE rfl (r_storeVar (i := 0) S rfl rfl rfl rfl (of_decide_eq_true rfl) (of_decide_eq_true rfl)) ?_; intro w S'; replace S := S'; clear S') | (refine st_skipE rfl (r_storeVar (i := 1) S rfl rfl rfl rfl (of_decide_eq_true rfl) (of_decide_eq_true rfl)) ?_; intro w S'; replace S := S'; clear S')) | (refine WP_cond rfl (fun h => ?_) (fun h => ?_) <;> (fail_if_success (have hh : true = true := h)) <;> (fail_if_success (have hh : false = false := h)) <;> (try simp only [decide_eq_true_eq, decide_eq_false_iff_not, Bool.not_eq_true', Bool.not_eq_false', Int.not_lt, Int.not_le] at h) <;> (try (exfalso; omega))))
        all_goals
          refine ⟨⟨_, ?_, 4, _, b, ⟨rfl, rfl, rfl, rfl, rfl, trivial⟩, ?_, by omega, by omega, rfl⟩⟩
          · omega
          · simp only [wkN, ef] at S ⊢
            exact S
      · have hq : q = 4 := by omega
        subst hq
        repeat' (first | refine WP_seq ?_ | refine WP_region ?_ | refine wl_nil ?_ | refine then_normal ?_ | refine inB_normal ?_ | refine WP_skip ?_ | refine WP_block ?_ | refine WP_condT rfl ?_ | (refine g_move ?_; refine st_move rfl ?_) | (refine g_assign ?_; refine st_assign rfl ?_) | (refine g_b_add ?_; (refine st_val rfl (r_addN rfl rfl ?_ ?_) ?_; (first | omega | (simp <;> omega)); (first | omega | (simp <;> omega)))) | (refine g_b_lss ?_; refine st_val rfl (r_lss rfl rfl) ?_) | (refine g_b_gtr ?_; refine st_val rfl (r_gtr rfl rfl) ?_) | (refine g_fieldAddr ?_; refine st_val rfl (r_fieldAddrL rfl) ?_) | (refine g_indexAddr ?_; first | (refine st_val rfl (r_indexAddr (hr.mono S.below) rfl rfl ?_ ?_) ?_; (first | omega | (simp <;> omega)); (first | omega | (simp <;> omega))) | (refine st_val rfl (r_indexAddrArrE rfl rfl ?_ ?_) ?_; (first | omega | (simp <;> omega)); (first | omega | (simp <;> omega))) | (refine st_val rfl (r_indexAddrArrL rfl rfl ?_ ?_) ?_; (first | omega | (simp <;> omega)); (first | omega | (simp <;> omega)))) | (refine g_load ?_; (refine st_val rfl (r_loadElemF (hr.mono S.below) rfl ?_ ?_ rfl) ?_; (first | omega | (simp <;> omega)); (first | omega | (simp <;> omega)))) | (refine g_callV ?_; (refine st_callV rfl (r_call2 rfl rfl rfl) (pickC_spec (by omega) (by omega) (by omega)) ?_; intro w hb; replace S := S.grow hb; clear hb)) | (refine g_store ?_; first | (refine st_skipE rfl (r_storeVar (i := 0) S rfl rfl rfl rfl (of_decide_eq_true rfl) (of_decide_eq_true rfl)) ?_; intro w S'; replace S := S'; clear S') | (refine st_skipE rfl (r_storeVar (i := 1) S rfl rfl rfl rfl (of_decide_eq_true rfl) (of_decide_eq_true rfl)) ?_; intro w S'; replace S := S'; clear S')) | (refine WP_cond rfl (fun h => ?_) (fun h => ?_) <;> (fail_if_success (have hh : true = true := h)) <;> (fail_if_success (have hh : false = false := h)) <;> (try simp only [decide_eq_true_eq, decide_eq_false_iff_not, Bool.not_eq_true', Bool.not_eq_false', Int.not_lt, Int.not_le] at h) <;> (try (exfalso; omega))))
        all_goals
          refine ⟨⟨_, ?_, 5, _, b, ⟨rfl, rfl, rfl, rfl, rfl, trivial⟩, ?_, by omega, by omega, rfl⟩⟩
          · omega
          · simp only [wkN, ef] at S ⊢
            exact S
      · have hq : q = 5 := by omega
        subst hq
        repeat' (first | refine WP_seq ?_ | refine WP_region ?_ | refine wl_nil ?_ | refine then_normal ?_ | refine inB_normal ?_ | refine WP_skip ?_ | refine WP_block ?_ | refine WP_condT rfl ?_ | (refine g_move ?_; refine st_move rfl ?_) | (refine g_assign ?_; refine st_assign rfl ?_) | (refine g_b_add ?_; (refine st_val rfl (r_addN rfl rfl ?_ ?_) ?_; (first | omega | (simp <;> omega)); (first | omega | (simp <;> omega)))) | (refine g_b_lss ?_; refine st_val rfl (r_lss rfl rfl) ?_) | (refine g_b_gtr ?_; refine st_val rfl (r_gtr rfl rfl) ?_) | (refine g_fieldAddr ?_; refine st_val rfl (r_fieldAddrL rfl) ?_) | (refine g_indexAddr ?_; first | (refine st_val rfl (r_indexAddr (hr.mono S.below) rfl rfl ?_ ?_) ?_; (first | omega | (simp <;> omega)); (first | omega | (simp <;> omega))) | (refine st_val rfl (r_indexAddrArrE rfl rfl ?_ ?_) ?_; (first | omega | (simp <;> omega)); (first | omega | (simp <;> omega))) | (refine st_val rfl (r_indexAddrArrL rfl rfl ?_ ?_) ?_; (first | omega | (simp <;> omega)); (first | omega | (simp <;> omega)))) | (refine g_load ?_; (refine st_val rfl (r_loadElemF (hr.mono S.below) rfl ?_ ?_ rfl) ?_; (first | omega | (simp <;> omega)); (first | omega | (simp <;> omega)))) | (refine g_callV ?_; (refine st_callV rfl (r_call2 rfl rfl rfl) (pickC_spec (by omega) (by omega) (by omega)) ?_; intro w hb; replace S := S.grow hb; clear hb)) | (refine g_store ?_; first | (refine st_skipE rfl (r_storeVar (i := 0) S rfl rfl rfl rfl (of_decide_eq_true rfl) (of_decide_eq_true rfl)) ?_; intro w S'; replace S := S'; clear S') | (refine st_skipE rfl (r_storeVar (i := 1) S rfl rfl rfl rfl (of_decide_eq_true rfl) (of_decide_eq_true rfl)) ?_; intro w S'; replace S := S'; clear S')) | (refine WP_cond rfl (fun h => ?_) (fun h => ?_) <;> (fail_if_success (have hh : true = true := h)) <;> (fail_if_success (have hh : false = false := h)) <;> (try simp only [decide_eq_true_eq, decide_eq_false_iff_not, Bool.not_eq_true', Bool.not_eq_false', Int.not_lt, Int.not_le] at h) <;> (try (exfalso; omega))))
        all_goals
          refine ⟨⟨_, ?_, 6, _, b, ⟨rfl, rfl, rfl, rfl, rfl, trivial⟩, ?_, by omega, by omega, rfl⟩⟩
          · omega
          · simp only [wkN, ef] at S ⊢
            exact S
      · have hq : q = 6 := by omega
        subst hq
        repeat' (first | refine WP_seq ?_ | refine WP_region ?_ | refine wl_nil ?_ | refine then_normal ?_ | refine inB_normal ?_ | refine WP_skip ?_ | refine WP_block ?_ | refine WP_condT rfl ?_ | (refine g_move ?_; refine st_move rfl ?_) | (refine g_assign ?_; refine st_assign rfl ?_) | (refine g_b_add ?_; (refine st_val rfl (r_addN rfl rfl ?_ ?_) ?_; (first | omega | (simp <;> omega)); (first | omega | (simp <;> omega)))) | (refine g_b_lss ?_; refine st_val rfl (r_lss rfl rfl) ?_) | (refine g_b_gtr ?_; refine st_val rfl (r_gtr rfl rfl) ?_) | (refine g_fieldAddr ?_; refine st_val rfl (r_fieldAddrL rfl) ?_) | (refine g_indexAddr ?_; first | (refine st_val rfl (r_indexAddr (hr.mono S.below) rfl rfl ?_ ?_) ?_; (first | omega | (simp <;> omega)); (first | omega | (simp <;> omega))) | (refine st_val rfl (r_indexAddrArrE rfl rfl ?_ ?_) ?_; (first | omega | (simp <;> omega)); (first | omega | (simp <;> omega))) | (refine st_val rfl (r_indexAddrArrL rfl rfl ?_ ?_) ?_; (first | omega | (simp <;> omega)); (first | omega | (simp <;> omega)))) | (refine g_load ?_; (refine st_val rfl (r_loadElemF (hr.mono S.below) rfl ?_ ?_ rfl) ?_; (first | omega | (simp <;> omega)); (first | omega | (simp <;> omega)))) | (refine g_callV ?_; (refine st_callV rfl (r_call2 rfl rfl rfl) (pickC_spec (by omega) (by omega) (by omega)) ?_; intro w hb; replace S := S.grow hb; clear hb)) | (refine g_store ?_; first | (refine st_skipE rfl (r_storeVar (i := 0) S rfl rfl rfl rfl (of_decide_eq_true rfl) (of_decide_eq_true rfl)) ?_; intro w S'; replace S := S'; clear S') | (refine st_skipE rfl (r_storeVar (i := 1) S rfl rfl rfl rfl (of_decide_eq_true rfl) (of_decide_eq_true rfl)) ?_; intro w S'; replace S := S'; clear S')) | (refine WP_cond rfl (fun h => ?_) (fun h => ?_) <;> (fail_if_success (have hh : true = true := h)) <;> (fail_if_success (have hh : false = false := h)) <;> (try simp only [decide_eq_true_eq, decide_eq_false_iff_not, Bool.not_eq_true', Bool.not_eq_false', Int.not_lt, Int.not_le] at h) <;> (try (exfalso; omega))))
        all_goals
          refine ⟨⟨_, ?_, 7, _, b, ⟨rfl, rfl, rfl, rfl, rfl, trivial⟩, ?_, by omega, by omega, rfl⟩⟩
          · omega
          · simp only [wkN, ef] at S ⊢
            exact S
  · repeat' (first | refine WP_seq ?_ | refine WP_region ?_ | refine wl_nil ?_ | refine then_normal ?_ | refine then_exit ?_ | refine inB_here ?_ | refine WP_ret ?_ | refine WP_exit ?_ | refine WP_condF rfl ?_ | (refine g_guard ?_; refine st_off rfl ?_) | (refine g_move ?_; refine st_move rfl ?_) | (refine g_assign ?_; refine st_assign rfl ?_) | (refine g_pick ?_; first | refine st_pickT rfl rfl ?_ | refine st_pickF rfl rfl ?_) | (refine g_b_lss ?_; refine st_val rfl (r_lss rfl rfl) ?_) | (refine g_c_len ?_; refine st_val rfl (r_lenSlice rfl) ?_) | (refine wl_split rfl rfl (fun h => ?_) (fun h => ?_) <;> (fail_if_success (have hh : true = true := h)) <;> (fail_if_success (have hh : false = false := h)) <;> (try simp only [decide_eq_true_eq, decide_eq_false_iff_not, Bool.not_eq_true', Bool.not_eq_false', Int.not_lt, Int.not_le] at h) <;> (try (exfalso; omega))) | (refine WP_cond rfl (fun h => ?_) (fun h => ?_) <;> (fail_if_success (have hh : true = true := h)) <;> (fail_if_success (have hh : false = false := h)) <;> (try simp only [decide_eq_true_eq, decide_eq_false_iff_not, Bool.not_eq_true', Bool.not_eq_false', Int.not_lt, Int.not_le] at h) <;> (try (exfalso; omega))))
    all_goals
      have e : i = min xs.length 8 := by omega
      subst e
      exact end1 rfl rfl ⟨_, rfl, S.below, S.row (i := 0) rfl⟩
theorem or_range {x y : Nat} (hx : x < 16777216) (hy : y < 16777216) : 0 ≤ bitsOp .or .i64 (x : Int) (y : Int) ∧ bitsOp .or .i64 (x : Int) (y : Int) ≤ 16777215 := by
  have e : (BitVec.ofInt IntKind.i64.bits (x : Int) ||| BitVec.ofInt IntKind.i64.bits (y : Int)).toNat = x ||| y := by
    rw [BitVec.toNat_or, BitVec.ofInt_natCast, BitVec.ofInt_natCast]
    show (BitVec.ofNat 64 x).toNat ||| (BitVec.ofNat 64 y).toNat = x ||| y
    rw [BitVec.toNat_ofNat, BitVec.toNat_ofNat, Nat.mod_eq_of_lt (by omega), Nat.mod_eq_of_lt (by omega)]
  have h : x ||| y < 2 ^ 24 := Nat.or_lt_two_pow (by omega) (by omega)
  unfold bitsOp
  simp only [e]
  rw [wrap_in (by omega) (by omega)]
  omega
theorem orW_range {x : Int} (h0 : 0 ≤ x) (h1 : x < 16777216) (d : Nat) (hd : d < 7) : 0 ≤ orW x (d : Int) ∧ orW x (d : Int) ≤ 16777215 := by
  obtain ⟨n, rfl⟩ := Int.eq_ofNat_of_zero_le h0
  have hs : ∃ m : Nat, m < 16777216 ∧ IntKind.i64.wrap (1 * 2 ^ (min ((d : Int)).toNat IntKind.i64.bits)) = (m : Int) := by
    match d, hd with
    | 0, _ => exact ⟨1, by decide, by decide⟩
    | 1, _ => exact ⟨2, by decide, by decide⟩
    | 2, _ => exact ⟨4, by decide, by decide⟩
    | 3, _ => exact ⟨8, by decide, by decide⟩
    | 4, _ => exact ⟨16, by decide, by decide⟩
    | 5, _ => exact ⟨32, by decide, by decide⟩
    | 6, _ => exact ⟨64, by decide, by decide⟩
  obtain ⟨m, hm, e⟩ := hs
  unfold orW
  rw [e]
  exact or_range (by omega) hm
theorem wkF_ok (K : GArr8Int) (d : Nat) (hd : d < 7) : okH (wkF K d) = true := by
  have r := pickI_range (c := K.a6) (n := 16777216) (by omega)
  unfold okH wkF
  rw [decide_eq_true_eq]
  split
  · exact orW_range r.1 r.2 d hd
  · omega
theorem madeC_ok (i : Int) (K : GArr8Int) (h0 : 0 ≤ i) (h8 : i < 8) : okC (madeC i K) = true := by
  have r0 := pickI_range (c := K.a0) (n := 10) (by omega)
  have r1 := pickI_range (c := K.a1) (n := 4) (by omega)
  have r2 := pickI_range (c := K.a2) (n := 3) (by omega)
  have r3 := pickI_range (c := K.a3) (n := 200) (by omega)
  have r3' := pickI_range (c := K.a3) (n := 6) (by omega)
  have r4 := pickI_range (c := K.a4) (n := 1 + pickI K.a3 6) (by omega)
  have r4' := pickI_range (c := K.a4) (n := 2000) (by omega)
  have r5 := pickI_range (c := K.a5) (n := 1000) (by omega)
  have r5' := pickI_range (c := K.a5) (n := 300000) (by omega)
  have r7 := pickI_range (c := K.a7) (n := 100000) (by omega)
  have e1 : okN (madeC i K) = true := by unfold okN madeC; rw [decide_eq_true_eq]; dsimp only; omega
  have e2 : okW (madeC i K).Week = true := by
    show okW (wkN (wkF K) 7) = true
    unfold okW wkN
    have h := fun d hd => wkF_ok K d hd
    simp only [wkL, List.all_cons, List.all_nil, Bool.and_true]
    simp [h 0 (by omega), h 1 (by omega), h 2 (by omega), h 3 (by omega), h 4 (by omega), h 5 (by omega), h 6 (by omega)]
  have e3 : okS (madeC i K).Window = true := by unfold okS madeC; rw [decide_eq_true_eq]; dsimp only; omega
  unfold okC; rw [e1, e2, e3]; rfl
theorem madeN_nth (xs : List GArr8Int) (n : Nat) {i : Int} (h0 : 0 ≤ i) (hi : i < n) : nth (madeN xs n) i = madeC i (nth xs i) := by
  have h := nth_get (l := madeN xs n) (i := i) h0 (by rw [madeN_len]; exact hi)
  unfold madeN at h
  rw [List.getElem?_map, List.getElem?_range (by omega)] at h
  have : madeC ((i.toNat : Nat) : Int) (nth xs ((i.toNat : Nat) : Int)) = _ := Option.some.inj h
  rw [Int.toNat_of_nonneg h0] at this
  exact this.symm
theorem madeL_len (xs : List GArr8Int) : (madeL xs).length ≤ 8 := by unfold madeL; rw [madeN_len]; omega
theorem madeL_ok (xs : List GArr8Int) : validC (madeL xs) = true := by
  refine validC_of (fun j h0 hj => ?_) (decide_eq_true (by have := madeL_len xs; omega))
  have hl := madeL_len xs
  unfold madeL at hj ⊢
  rw [madeN_len] at hj
  have e := madeN_nth xs (min xs.length 8) h0 hj
  refine okAt_of (by rw [e]; exact madeC_ok _ _ h0 (by omega)) ?_
  unfold prevC
  have r := pickI_range (c := (nth xs j).a0) (n := 10) (by omega)
  rw [e]
  split
  · show -1 < 10 * j + pickI (nth xs j).a0 10
    omega
  · rw [madeN_nth xs (min xs.length 8) (i := j - 1) (by omega) (by omega)]
    have r' := pickI_range (c := (nth xs (j - 1)).a0) (n := 10) (by omega)
    show 10 * (j - 1) + pickI (nth xs (j - 1)).a0 10 < 10 * j + pickI (nth xs j).a0 10
    omega
def spotF (l : List GContract) (y : GArr2Int) : GSpot := ⟨if 0 < (l.length : Int) ∧ 0 < pickI y.a0 9 then (nth l (pickI y.a0 l.length)).ID else pickI y.a0 100, pickI y.a1 300000⟩
def spotsN (l : List GContract) (ys : List GArr2Int) (n : Nat) : List GSpot := (List.range n).map fun (i : Nat) => spotF l (nth ys (i : Int))
def spotsL (l : List GContract) (ys : List GArr2Int) : List GSpot := spotsN l ys (min ys.length 24)
theorem spotsN_succ (l : List GContract) (ys : List GArr2Int) (n : Nat) : spotsN l ys (n + 1) = spotsN l ys n ++ [spotF l (nth ys (n : Int))] := by unfold spotsN; rw [List.range_succ, List.map_append]; rfl
theorem spotsN_len (l : List GContract) (ys : List GArr2Int) (n : Nat) : (spotsN l ys n).length = n := by simp [spotsN]
theorem spotsL_len (l : List GContract) (ys : List GArr2Int) : (spotsL l ys).length ≤ 24 := by unfold spotsL; rw [spotsN_len]; omega
theorem spotF_ok {l : List GContract} (hl : validC l = true) (y : GArr2Int) : okP (spotF l y) = true ∧ (spotF l y).At < 300000 := by
  have r0 := pickI_range (c := y.a0) (n := 100) (by omega)
  have r1 := pickI_range (c := y.a1) (n := 300000) (by omega)
  refine ⟨?_, r1.2⟩
  unfold okP spotF
  rw [decide_eq_true_eq]
  dsimp only
  split
  · rename_i h
    have r2 := pickI_range (c := y.a0) (n := (l.length : Int)) h.1
    have := okC_id (valid_ok hl (nth_mem r2.1 r2.2))
    omega
  · omega
theorem spotsL_ok {l : List GContract} (hl : validC l = true) (ys : List GArr2Int) : validP (spotsL l ys) = true := by
  unfold validP
  rw [decide_eq_true (by have := spotsL_len l ys; omega), Bool.true_and, List.all_eq_true]
  intro x hx
  unfold spotsL spotsN at hx
  obtain ⟨i, _, rfl⟩ := List.mem_map.1 hx
  exact (spotF_ok hl _).1
set_option maxHeartbeats 1000000 in
theorem spots_run {v1 v2 : Value} {l : List GContract} {ys : List GArr2Int} {w0 : World} (hr1 : Rd fGContract.ty w0 v1 l) (hr2 : Rd fGArr2Int.ty w0 v2 ys) (hy : ∀ y ∈ ys, okA2 y) (hl : l.length ≤ 1000000000) (hl2 : ys.length ≤ maxLen) :
    CallsR Tryd.prog 12 #[v1, v2] w0 (fun r w' => NewRow fGSpot 63 w0 w' r (spotsL l ys)) := by
  have S := St.start w0
  have hml : maxLen ≤ 9223372036854775807 := by decide
  obtain ⟨A, c, rfl⟩ := hr1.len
  obtain ⟨A2, c2, rfl⟩ := hr2.len
  refine CallsR.mk ?_
  refine calls_enter Tryd.func12 rfl (by intro _ h; first | exact nomatch h.1 | (obtain ⟨_, h, _⟩ := h; exact nomatch h)) Tryd.ntmps12 rfl ?_
  repeat' (first | refine WP_seq ?_ | refine WP_region ?_ | refine wl_nil ?_ | refine then_normal ?_ | refine WP_block ?_ | (refine g_assign ?_; refine st_assign rfl ?_))
  replace S := S.nilRow fGSpot 63
  refine WP_loop (fun m σ w1 => ∃ (i : Nat) (p : Int) (vo : Value), Has σ [(0, .slice A l.length c), (1, .slice A2 ys.length c2), (5, vo), (6, .int .i64 p)] ∧ St w0 w1 [rowOb fGSpot 63 vo (spotsN l ys i)] ∧ p = i ∧ i ≤ min ys.length 24 ∧ m = 24 - i) 24 ⟨0, _, _, ⟨rfl, rfl, rfl, rfl, trivial⟩, S, rfl, by omega, rfl⟩ ?_
  clear S
  rintro m σ w1 ⟨i, p, vo, hs, S, hp, hi1, hm⟩
  refine WP_has hs ?_
  have hol := spotsN_len l ys i
  by_cases hi : i < min ys.length 24
  · obtain ⟨x0, x1⟩ := hy _ (nth_mem (l := ys) (i := p) (by omega) (by omega))
    unfold inI at x0 x1
    have r9 := pickI_range (c := (nth ys p).a0) (n := 9) (by omega)
    by_cases hc : 0 < (l.length : Int) ∧ 0 < pickI (nth ys p).a0 9
    · have rl := pickI_range (c := (nth ys p).a0) (n := (l.length : Int)) hc.1
      have ef : spotF l (nth ys p) = ⟨(nth l (pickI (nth ys p).a0 l.length)).ID, pickI (nth ys p).a1 300000⟩ := by unfold spotF; rw [if_pos hc]
      repeat' (first | refine WP_seq ?_ | refine WP_region ?_ | refine wl_nil ?_ | refine then_normal ?_ | refine WP_skip ?_ | refine WP_block ?_ | refine WP_drawGrow 13 14 (by kernel_rfl) (by decide +kernel) ?_ | refine wg_nil ?_ | (refine wg_val rfl (r_alloc S) (by rintro _ _ ⟨b, -, h, -⟩; exact h) ?_; rintro _ w ⟨b, rfl, -, S'⟩ w hb; replace S := S'.grow hb; clear S' hb) | (refine ql_nil ?_; intro w hb; replace S := S.grow hb; clear hb) | (refine g_move ?_; refine st_move rfl ?_) | (refine g_pick ?_; refine st_pickT rfl rfl ?_) | (refine g_b_lss ?_; refine st_val rfl (r_lss rfl rfl) ?_) | (refine g_b_gtr ?_; refine st_val rfl (r_gtr rfl rfl) ?_) | (refine g_c_len ?_; refine st_val rfl (r_lenSlice rfl) ?_) | (refine g_fieldAddr ?_; first | refine st_val rfl (r_fieldAddrL rfl) ?_ | refine st_val rfl (r_fieldAddr rfl) ?_) | (refine g_indexAddr ?_; first | (refine st_val rfl (r_indexAddr (hr1.mono S.below) rfl rfl ?_ ?_) ?_; (first | omega | (simp <;> omega)); (first | omega | (simp <;> omega))) | (refine st_val rfl (r_indexAddr (hr2.mono S.below) rfl rfl ?_ ?_) ?_; (first | omega | (simp <;> omega)); (first | omega | (simp <;> omega))) | (refine st_val rfl (r_indexAddrArrE rfl rfl ?_ ?_) ?_; (first | omega | (simp <;> omega)); (first | omega | (simp <;> omega)))) | (refine g_load ?_; first | (refine st_val rfl (r_loadElem1 (hr1.mono S.below) rfl ?_ ?_ rfl) ?_; (first | omega | (simp <;> omega)); (first | omega | (simp <;> omega))) | (refine st_val rfl (r_loadElem1 (hr2.mono S.below) rfl ?_ ?_ rfl) ?_; (first | omega | (simp <;> omega)); (first | omega | (simp <;> omega))) | refine st_val rfl (r_loadVarA (i := 1) S rfl rfl rfl rfl) ?_) | (refine g_callV ?_; (refine st_callV rfl (r_call2 rfl rfl rfl) (pickC_spec (by omega) (by omega) (by omega)) ?_; intro w hb; replace S := S.grow hb; clear hb)) | (refine gq_move ?_; refine q_move rfl ?_) | (refine gq_build ?_; refine q_val rfl (fun w' hb => bd63_0_1 rfl rfl) ?_) | (refine gq_indexAddr ?_; first | (refine q_val rfl (fun w' hb => r_indexAddr (hr2.mono (S.grow hb).below) rfl rfl ?_ ?_) ?_; (first | omega | (simp <;> omega)); (first | omega | (simp <;> omega))) | (refine q_val rfl (fun w' hb => r_indexAddrArrE rfl rfl ?_ ?_) ?_; (first | omega | (simp <;> omega)); (first | omega | (simp <;> omega)))) | (refine gq_load ?_; first | (refine q_val rfl (fun w' hb => r_loadElem1 (hr2.mono (S.grow hb).below) rfl ?_ ?_ rfl) ?_; (first | omega | (simp <;> omega)); (first | omega | (simp <;> omega))) | (refine q_val rfl (fun w' hb => r_loadElemF (hr2.mono (S.grow hb).below) rfl ?_ ?_ rfl) ?_; (first | omega | (simp <;> omega)); (first | omega | (simp <;> omega)))) | (refine gq_callV ?_; refine q_callV rfl (fun w' hb => r_call2 rfl rfl rfl) (fun w' hb => pickC_spec (by omega) (by omega) (by omega)) ?_) | (refine g_store ?_; first | (refine st_skipE rfl (r_storeVar (i := 0) S rfl rfl rfl rfl (of_decide_eq_true rfl) (of_decide_eq_true rfl)) ?_; intro w S'; replace S := S'; clear S') | (refine st_skipE rfl (r_storeVar (i := 1) S rfl rfl rfl rfl (of_decide_eq_true rfl) (of_decide_eq_true rfl)) ?_; intro w S'; replace S := S'; clear S')) | (refine wl_split rfl rfl (fun h => ?_) (fun h => ?_) <;> (fail_if_success (have hh : true = true := h)) <;> (fail_if_success (have hh : false = false := h)) <;> (try simp only [decide_eq_true_eq, decide_eq_false_iff_not, Bool.not_eq_true', Bool.not_eq_false', Int.not_lt, Int.not_le] at h) <;> (try (exfalso; omega))) | (refine WP_cond rfl (fun h => ?_) (fun h => ?_) <;> (fail_if_success (have hh : true = true := h)) <;> (fail_if_success (have hh : false = false := h)) <;> (try simp only [decide_eq_true_eq, decide_eq_false_iff_not, Bool.not_eq_true', Bool.not_eq_false', Int.not_lt, Int.not_le] at h) <;> (try (exfalso; omega))))
      refine st_valE rfl (r_litF (D := fGSpot) [spotF l (nth ys p)] (fun y => .agg y.enc.toArray) S (by rw [ef]; rfl) rfl (fun _ => rfl) rfl (Nat.succ_pos _) (by show 1 * 2 ≤ _; decide)) ?_
      rintro _ w ⟨bl, rfl, -, hcl, S'⟩; replace S := S'; clear S'
      refine st_valE rfl (r_append1 (D := fGSpot) (i := 0) (b := bl) (x := spotF l (nth ys p)) S rfl rfl rfl (fl_one hcl) rfl (by decide) (one_sp _) (by omega) (by omega)) ?_
      rintro vo' w ⟨-, S'⟩; replace S := S'; clear S' hcl
      repeat' (first | refine WP_region ?_ | refine wl_nil ?_ | refine then_normal ?_ | refine inB_normal ?_ | (refine g_move ?_; refine st_move rfl ?_) | (refine g_assign ?_; refine st_assign rfl ?_) | (refine g_b_add ?_; (refine st_val rfl (r_addN rfl rfl ?_ ?_) ?_; (first | omega | (simp <;> omega)); (first | omega | (simp <;> omega)))))
      refine ⟨⟨_, ?_, i + 1, _, vo', ⟨rfl, rfl, rfl, rfl, trivial⟩, by rw [spotsN_succ, ← hp]; exact S.keep [true], by omega, by omega, rfl⟩⟩
      omega
    · have ef : spotF l (nth ys p) = ⟨pickI (nth ys p).a0 100, pickI (nth ys p).a1 300000⟩ := by unfold spotF; rw [if_neg hc]
      repeat' (first | refine WP_seq ?_ | refine WP_region ?_ | refine wl_nil ?_ | refine then_normal ?_ | refine WP_skip ?_ | refine WP_block ?_ | refine WP_condF rfl ?_ | refine WP_drawGrow 13 14 (by kernel_rfl) (by decide +kernel) ?_ | refine wg_nil ?_ | (refine wg_val rfl (r_alloc S) (by rintro _ _ ⟨b, -, h, -⟩; exact h) ?_; rintro _ w ⟨b, rfl, -, S'⟩ w hb; replace S := S'.grow hb; clear S' hb) | (refine ql_nil ?_; intro w hb; replace S := S.grow hb; clear hb) | (refine g_guard ?_; refine st_off rfl ?_) | (refine g_move ?_; refine st_move rfl ?_) | (refine g_pick ?_; first | refine st_pickT rfl rfl ?_ | refine st_pickF rfl rfl ?_) | (refine g_b_lss ?_; refine st_val rfl (r_lss rfl rfl) ?_) | (refine g_b_gtr ?_; refine st_val rfl (r_gtr rfl rfl) ?_) | (refine g_c_len ?_; refine st_val rfl (r_lenSlice rfl) ?_) | (refine g_indexAddr ?_; first | (refine st_val rfl (r_indexAddr (hr2.mono S.below) rfl rfl ?_ ?_) ?_; (first | omega | (simp <;> omega)); (first | omega | (simp <;> omega))) | (refine st_val rfl (r_indexAddrArrE rfl rfl ?_ ?_) ?_; (first | omega | (simp <;> omega)); (first | omega | (simp <;> omega)))) | (refine g_load ?_; first | (refine st_val rfl (r_loadElem1 (hr2.mono S.below) rfl ?_ ?_ rfl) ?_; (first | omega | (simp <;> omega)); (first | omega | (simp <;> omega))) | refine st_val rfl (r_loadVarA (i := 1) S rfl rfl rfl rfl) ?_) | (refine g_callV ?_; (refine st_callV rfl (r_call2 rfl rfl rfl) (pickC_spec (by omega) (by omega) (by omega)) ?_; intro w hb; replace S := S.grow hb; clear hb)) | (refine gq_move ?_; refine q_move rfl ?_) | (refine gq_build ?_; refine q_val rfl (fun w' hb => bd63_0_1 rfl rfl) ?_) | (refine gq_indexAddr ?_; first | (refine q_val rfl (fun w' hb => r_indexAddr (hr2.mono (S.grow hb).below) rfl rfl ?_ ?_) ?_; (first | omega | (simp <;> omega)); (first | omega | (simp <;> omega))) | (refine q_val rfl (fun w' hb => r_indexAddrArrE rfl rfl ?_ ?_) ?_; (first | omega | (simp <;> omega)); (first | omega | (simp <;> omega)))) | (refine gq_load ?_; first | (refine q_val rfl (fun w' hb => r_loadElem1 (hr2.mono (S.grow hb).below) rfl ?_ ?_ rfl) ?_; (first | omega | (simp <;> omega)); (first | omega | (simp <;> omega))) | (refine q_val rfl (fun w' hb => r_loadElemF (hr2.mono (S.grow hb).below) rfl ?_ ?_ rfl) ?_; (first | omega | (simp <;> omega)); (first | omega | (simp <;> omega)))) | (refine gq_callV ?_; refine q_callV rfl (fun w' hb => r_call2 rfl rfl rfl) (fun w' hb => pickC_spec (by omega) (by omega) (by omega)) ?_) | (refine g_store ?_; first | (refine st_skipE rfl (r_storeVar (i := 0) S rfl rfl rfl rfl (of_decide_eq_true rfl) (of_decide_eq_true rfl)) ?_; intro w S'; replace S := S'; clear S') | (refine st_skipE rfl (r_storeVar (i := 1) S rfl rfl rfl rfl (of_decide_eq_true rfl) (of_decide_eq_true rfl)) ?_; intro w S'; replace S := S'; clear S')) | (refine wl_split rfl rfl (fun h => ?_) (fun h => ?_) <;> (fail_if_success (have hh : true = true := h)) <;> (fail_if_success (have hh : false = false := h)) <;> (try simp only [decide_eq_true_eq, decide_eq_false_iff_not, Bool.not_eq_true', Bool.not_eq_false', Int.not_lt, Int.not_le] at h) <;> (try (exfalso; omega))) | (refine WP_cond rfl (fun h => ?_) (fun h => ?_) <;> (fail_if_success (have hh : true = true := h)) <;> (fail_if_success (have hh : false = false := h)) <;> (try simp only [decide_eq_true_eq, decide_eq_false_iff_not, Bool.not_eq_true', Bool.not_eq_false', Int.not_lt, Int.not_le] at h) <;> (try (exfalso; omega))))
      all_goals
        refine st_valE rfl (r_litF (D := fGSpot) [spotF l (nth ys p)] (fun y => .agg y.enc.toArray) S (by rw [ef]; rfl) rfl (fun _ => rfl) rfl (Nat.succ_pos _) (by show 1 * 2 ≤ _; decide)) ?_
        rintro _ w ⟨bl, rfl, -, hcl, S'⟩; replace S := S'; clear S'
        refine st_valE rfl (r_append1 (D := fGSpot) (i := 0) (b := bl) (x := spotF l (nth ys p)) S rfl rfl rfl (fl_one hcl) rfl (by decide) (one_sp _) (by omega) (by omega)) ?_
        rintro vo' w ⟨-, S'⟩; replace S := S'; clear S' hcl
        repeat' (first | refine WP_region ?_ | refine wl_nil ?_ | refine then_normal ?_ | refine inB_normal ?_ | (refine g_move ?_; refine st_move rfl ?_) | (refine g_assign ?_; refine st_assign rfl ?_) | (refine g_b_add ?_; (refine st_val rfl (r_addN rfl rfl ?_ ?_) ?_; (first | omega | (simp <;> omega)); (first | omega | (simp <;> omega)))))
        refine ⟨⟨_, ?_, i + 1, _, vo', ⟨rfl, rfl, rfl, rfl, trivial⟩, by rw [spotsN_succ, ← hp]; exact S.keep [true], by omega, by omega, rfl⟩⟩
        omega
  · repeat' (first | refine WP_seq ?_ | refine WP_region ?_ | refine wl_nil ?_ | refine then_normal ?_ | refine then_exit ?_ | refine inB_here ?_ | refine WP_ret ?_ | refine WP_exit ?_ | refine WP_condF rfl ?_ | (refine g_guard ?_; refine st_off rfl ?_) | (refine g_move ?_; refine st_move rfl ?_) | (refine g_assign ?_; refine st_assign rfl ?_) | (refine g_pick ?_; first | refine st_pickT rfl rfl ?_ | refine st_pickF rfl rfl ?_) | (refine g_b_lss ?_; refine st_val rfl (r_lss rfl rfl) ?_) | (refine g_c_len ?_; refine st_val rfl (r_lenSlice rfl) ?_) | (refine wl_split rfl rfl (fun h => ?_) (fun h => ?_) <;> (fail_if_success (have hh : true = true := h)) <;> (fail_if_success (have hh : false = false := h)) <;> (try simp only [decide_eq_true_eq, decide_eq_false_iff_not, Bool.not_eq_true', Bool.not_eq_false', Int.not_lt, Int.not_le] at h) <;> (try (exfalso; omega))) | (refine WP_cond rfl (fun h => ?_) (fun h => ?_) <;> (fail_if_success (have hh : true = true := h)) <;> (fail_if_success (have hh : false = false := h)) <;> (try simp only [decide_eq_true_eq, decide_eq_false_iff_not, Bool.not_eq_true', Bool.not_eq_false', Int.not_lt, Int.not_le] at h) <;> (try (exfalso; omega))))
    all_goals
      have e : i = min ys.length 24 := by omega
      subst e
      exact end1 rfl rfl ⟨_, rfl, S.below, S.row (i := 0) rfl⟩
end Go.Proofs.YtijnbpnficcpmaaDoor
