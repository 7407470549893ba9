import Derived.Test.YteplelijhkmbkaaDoorQ
import Derived.Test.YteplelijhkmbkaaDoorGxJ4
namespace Go.Proofs.YteplelijhkmbkaaDoor
open Go Go.Gx Go.RowKit
set_option linter.unusedVariables false
set_option linter.unusedSimpArgs false

abbrev cM (l : List GContract) : List (Int × GContract) := l.map fun c => (c.ID, c)
/-- What count hands back. -/
def CountR (l : List GContract) (sp : List GSpot) (w0 : World) (r : Value) (w' : World) : Prop :=
  ∃ (bt b1 b2 b3 b4 : Nat) (Sp : List (GSpot × Bool)) (Mn : List (Int × Int)) (Dy : List (GDay × Int)) (vo : Value) (turn : List Int), Ord sp turn ∧ r = .tuple #[.pointer (some ⟨bt, 0, none⟩), vo, .int .i64 0] ∧ Tal l (spAt sp (outOf l sp turn)) (cM l) Sp Mn Dy ∧
    St w0 w' [mapOb eI eC b1 (cM l), mapOb eP eB b2 Sp, mapOb eI eI b3 Mn, mapOb eD eI b4 Dy, .var bt 78 [.map (some b1), .map (some b2), .map (some b3), .map (some b4)], rowOb (fInt .i64) 3 vo (outOf l sp turn)]
theorem spAt_mem {sp : List GSpot} {turn : List Int} {l : List GContract} (h : ∀ x ∈ turn, 0 ≤ x ∧ x < sp.length) : ∀ s ∈ spAt sp (outOf l sp turn), s ∈ sp := by
  intro s hs
  obtain ⟨i, hi, rfl⟩ := List.mem_map.1 hs
  have := h i (outOf_mem hi)
  exact nth_mem this.1 this.2
theorem talAt_of {w0 w : World} {bt b1 b2 b3 b4 : Nat} {C : List (Int × GContract)} {Sp : List (GSpot × Bool)} {Mn : List (Int × Int)} {Dy : List (GDay × Int)} {o0 o1 : Ob} {ex : List Ob} (S : St w0 w (o0 :: o1 :: mapOb eI eC b1 C :: mapOb eP eB b2 Sp :: mapOb eI eI b3 Mn :: mapOb eD eI b4 Dy :: .var bt 78 [.map (some b1), .map (some b2), .map (some b3), .map (some b4)] :: ex)) : TalAt w bt b1 b2 b3 b4 C Sp Mn Dy :=
  ⟨S.var (i := 6) rfl, S.mapAt (i := 2) rfl, S.mapAt (i := 3) rfl, S.mapAt (i := 4) rfl, S.mapAt (i := 5) rfl⟩
theorem reason_is {w0 : World} {bt b1 b2 b3 b4 : Nat} {C : List (Int × GContract)} {Sp : List (GSpot × Bool)} {Mn : List (Int × Int)} {Dy : List (GDay × Int)} {x : GSpot} {z : Int} (hz : rsnM C Sp Mn Dy x = z) (T : TalAt w0 bt b1 b2 b3 b4 C Sp Mn Dy) (hG : TblAt w0) (hx : 0 ≤ x.At ∧ x.At ≤ 9999999) (hs : ∀ s ∈ Sp, 0 ≤ s.1.At ∧ s.1.At ≤ 9999999) : CallsV Tryd.prog 44 #[.pointer (some ⟨bt, 0, none⟩), .agg x.enc.toArray] w0 (.int .i64 z) := by
  rw [← hz]; exact reason_spec T hG hx hs
theorem touch_get {K : Type} [DecidableEq K] {k : K} {l : List (K × Int)} : (mGet k (mTouch k 0 l)).getD 0 = (mGet k l).getD 0 := by
  unfold mTouch
  cases h : mGet k l with
  | some x => rw [h]
  | none =>
    rw [mGet_append, h]
    simp [mGet]
theorem cntC_le {cnt : List GSpot} {id : Int} : 0 ≤ cntC cnt id ∧ cntC cnt id ≤ cnt.length := by
  unfold cntC; have := List.countP_le_length (p := fun s : GSpot => decide (s.Contract = id)) (l := cnt); omega
theorem cntD_le {cnt : List GSpot} {d : GDay} : 0 ≤ cntD cnt d ∧ cntD cnt d ≤ cnt.length := by
  unfold cntD; have := List.countP_le_length (p := fun s : GSpot => decide (onD s = d)) (l := cnt); omega
set_option maxHeartbeats 2000000 in
theorem count_ok {l : List GContract} {sp : List GSpot} {v1 v2 : Value} {w0 : World} (hr1 : Rd fGContract.ty w0 v1 l) (hr2 : Rd fGSpot.ty w0 v2 sp) (h1 : validC l = true) (h2 : validP sp = true) (hG : TblAt w0) :
    CallsR Tryd.prog 36 #[v1, v2] w0 (CountR l sp w0) := by
  have S := St.start w0
  have hl := validC_len h1
  have hl2 := validP_len h2
  obtain ⟨A, c, rfl⟩ := hr1.len
  obtain ⟨A2, c2, rfl⟩ := hr2.len
  refine CallsR.mk ?_
  refine calls_enter Tryd.func36 rfl (by intro _ h; first | exact nomatch h.1 | (obtain ⟨_, h, _⟩ := h; exact nomatch h)) Tryd.ntmps36 rfl ?_
  repeat' (first | refine WP_seq ?_ | refine WP_region ?_ | refine wl_nil ?_ | refine then_normal ?_ | refine WP_skip ?_ | refine WP_condF rfl ?_ | (refine g_move ?_; refine st_move rfl ?_) | (refine g_assign ?_; refine st_assign rfl ?_) | (refine g_pick ?_; refine st_pickF rfl rfl ?_) | (refine g_un ?_; refine st_val rfl (r_not rfl) ?_) | (refine g_load ?_; refine st_val rfl (r_loadVar (i := 0) S rfl rfl rfl) ?_) | (refine g_callV ?_; first | (refine st_callV rfl (r_call1 rfl rfl) (valid_is h1 (hr1.mono S.below) (by omega)) ?_; intro w hb; replace S := S.grow hb; clear hb) | (refine st_callV rfl (r_call1 rfl rfl) (validSpots_is h2 (hr2.mono S.below) (by omega)) ?_; intro w hb; replace S := S.grow hb; clear hb)) | (refine g_box ?_; refine st_valE rfl (r_box S rfl) ?_; rintro _ w ⟨b, rfl, -, S'⟩; replace S := S'; clear S'))
  obtain ⟨bs, rfl⟩ : ∃ x, x = b := ⟨_, rfl⟩
  refine st_valE rfl (r_makeMap (eK := eI) (eV := eC) S) ?_
  rintro _ w ⟨b1, rfl, -, S'⟩; replace S := S'; clear S'
  refine st_valE rfl (r_makeMap (eK := eP) (eV := eB) S) ?_
  rintro _ w ⟨b2, rfl, -, S'⟩; replace S := S'; clear S'
  refine st_valE rfl (r_makeMap (eK := eI) (eV := eI) S) ?_
  rintro _ w ⟨b3, rfl, -, S'⟩; replace S := S'; clear S'
  refine st_valE rfl (r_makeMap (eK := eD) (eV := eI) S) ?_
  rintro _ w ⟨b4, rfl, -, S'⟩; replace S := S'; clear S'
  repeat' (first | refine WP_seq ?_ | refine WP_region ?_ | refine wl_nil ?_ | refine then_normal ?_ | refine WP_block ?_ | (refine g_move ?_; refine st_move rfl ?_) | (refine g_assign ?_; refine st_assign rfl ?_) | (refine g_build ?_; refine st_val rfl (bd78_0_1_2_3 rfl rfl rfl rfl) ?_) | (refine g_c_len ?_; refine st_val rfl (r_lenSlice rfl) ?_) | (refine g_box ?_; refine st_valE rfl (r_box S rfl) ?_; rintro _ w ⟨b, rfl, -, S'⟩; replace S := S'; clear S'))
  obtain ⟨bt, rfl⟩ : ∃ x, x = b := ⟨_, rfl⟩
  refine WP_loop (fun k σ w1 => ∃ (i : Int), Has σ [(3, .pointer (some ⟨bs, 0, none⟩)), (7, .pointer (some ⟨bt, 0, none⟩)), (30, .slice A l.length c), (31, .int .i64 l.length), (32, .int .i64 i)] ∧ St w0 w1 [.var bs 36 [.slice A2 sp.length c2], mapOb eI eC b1 (cM (l.take i.toNat)), mapOb eP eB b2 [], mapOb eI eI b3 [], mapOb eD eI b4 [], .var bt 78 [.map (some b1), .map (some b2), .map (some b3), .map (some b4)]] ∧ 0 ≤ i ∧ i ≤ l.length ∧ k = l.length - i.toNat) l.length ⟨0, ⟨rfl, rfl, rfl, rfl, rfl, trivial⟩, S, by omega, by omega, by omega⟩ ?_
  clear S
  rintro k σ w1 ⟨i, hs, S, hi0, hi1, hk⟩
  refine WP_has hs ?_
  by_cases hi : i < l.length
  · repeat' (first | refine WP_seq ?_ | refine WP_region ?_ | refine wl_nil ?_ | refine then_normal ?_ | refine inB_normal ?_ | refine WP_skip ?_ | refine WP_block ?_ | refine WP_drawTail 7 (by kernel_rfl) (by decide +kernel) ?_ | (refine ql_nil ?_; intro w hb; replace S := S.grow hb; clear hb) | (refine g_move ?_; refine st_move rfl ?_) | (refine g_b_add ?_; (refine st_val rfl (r_addN rfl rfl ?_ ?_) ?_; (first | omega | (simp <;> omega)); (first | omega | (simp <;> omega)))) | (refine g_b_lss ?_; refine st_val rfl (r_lss rfl rfl) ?_) | (refine g_indexAddr ?_; (refine st_val rfl (r_indexAddr (hr1.mono S.below) rfl rfl ?_ ?_) ?_; (first | omega | (simp <;> omega)); (first | omega | (simp <;> omega)))) | (refine g_load ?_; (refine st_val rfl (r_loadElem (hr1.mono S.below) rfl ?_ ?_) ?_; (first | omega | (simp <;> omega)); (first | omega | (simp <;> omega)))) | (refine gq_move ?_; refine q_move rfl ?_) | (refine gq_nilCheck ?_; refine q_val rfl (fun w' hb => r_nilCheck rfl) ?_) | (refine gq_fieldAddr ?_; refine q_val rfl (fun w' hb => r_fieldAddrL rfl) ?_) | (refine gq_load ?_; first | refine q_val rfl (fun w' hb => r_loadVar (i := 5) (S.grow hb) rfl rfl rfl) ?_ | refine q_val rfl (fun w' hb => r_loadVar (i := 6) (S.grow hb) rfl rfl rfl) ?_ | refine q_val rfl (fun w' hb => r_loadVarA (i := 6) (S.grow hb) rfl rfl rfl rfl) ?_) | (refine g_alloc ?_; refine st_valE rfl (r_alloc S) ?_; rintro _ w ⟨b, rfl, -, S'⟩; replace S := S'; clear S') | (refine g_store ?_; first | (refine st_skipE rfl (r_storeVar (i := 0) S rfl rfl rfl rfl (of_decide_eq_true rfl) (of_decide_eq_true rfl)) ?_; intro w S'; replace S := S'; clear S') | (refine st_skipE rfl (r_storeVar (i := 1) S rfl rfl rfl rfl (of_decide_eq_true rfl) (of_decide_eq_true rfl)) ?_; intro w S'; replace S := S'; clear S') | (refine st_skipE rfl (r_storeVar (i := 2) S rfl rfl rfl rfl (of_decide_eq_true rfl) (of_decide_eq_true rfl)) ?_; intro w S'; replace S := S'; clear S') | (refine st_skipE rfl (r_storeVar (i := 3) S rfl rfl rfl rfl (of_decide_eq_true rfl) (of_decide_eq_true rfl)) ?_; intro w S'; replace S := S'; clear S') | (refine st_skipE rfl (r_storeVar (i := 4) S rfl rfl rfl rfl (of_decide_eq_true rfl) (of_decide_eq_true rfl)) ?_; intro w S'; replace S := S'; clear S') | (refine st_skipE rfl (r_storeVar (i := 5) S rfl rfl rfl rfl (of_decide_eq_true rfl) (of_decide_eq_true rfl)) ?_; intro w S'; replace S := S'; clear S') | (refine st_skipE rfl (r_storeVar (i := 6) S rfl rfl rfl rfl (of_decide_eq_true rfl) (of_decide_eq_true rfl)) ?_; intro w S'; replace S := S'; clear S')) | (refine st_skipE rfl (r_mapUpdate (i := 1) (eK := eI) (eV := eC) (k := (nth l i).ID) (v := nth l i) S rfl rfl rfl rfl) ?_; intro w S'; replace S := S'; clear S') | (refine WP_cond rfl (fun h => ?_) (fun h => ?_) <;> (fail_if_success (have hh : true = true := h)) <;> (fail_if_success (have hh : false = false := h)) <;> (try simp only [decide_eq_true_eq, decide_eq_false_iff_not, Bool.not_eq_true', Bool.not_eq_false', Int.not_lt, Int.not_le] at h) <;> (try (exfalso; omega))))
    rw [take_put h1 hi0 hi] at S
    refine ⟨⟨_, ?_, i + 1, ⟨rfl, rfl, rfl, rfl, rfl, trivial⟩, S.keep [true, true, true, true, true, true], by omega, by omega, rfl⟩⟩
    omega
  have hil : i.toNat = l.length := by omega
  rw [hil, List.take_length] at S
  repeat' (first | refine WP_seq ?_ | refine WP_region ?_ | refine wl_nil ?_ | refine then_normal ?_ | refine then_exit ?_ | refine inB_here ?_ | refine WP_exit ?_ | refine WP_block ?_ | (refine g_move ?_; refine st_move rfl ?_) | (refine g_assign ?_; refine st_assign rfl ?_) | (refine g_b_lss ?_; refine st_val rfl (r_lss rfl rfl) ?_) | (refine g_c_len ?_; refine st_val rfl (r_lenSlice rfl) ?_) | (refine g_load ?_; refine st_val rfl (r_loadVar (i := 0) S rfl rfl rfl) ?_) | (refine WP_cond rfl (fun h => ?_) (fun h => ?_) <;> (fail_if_success (have hh : true = true := h)) <;> (fail_if_success (have hh : false = false := h)) <;> (try simp only [decide_eq_true_eq, decide_eq_false_iff_not, Bool.not_eq_true', Bool.not_eq_false', Int.not_lt, Int.not_le] at h) <;> (try (exfalso; omega))))
  replace S := (S.nilRow (fInt .i64) 3).nilRow (fInt .i64) 3
  refine WP_loop (fun k σ w1 => ∃ (i : Int) (vt : Value), Has σ [(3, .pointer (some ⟨bs, 0, none⟩)), (7, .pointer (some ⟨bt, 0, none⟩)), (10, vt), (11, .slice none 0 0), (45, .int .i64 sp.length), (46, .int .i64 i)] ∧ St w0 w1 [.var bs 36 [.slice A2 sp.length c2], mapOb eI eC b1 (cM l), mapOb eP eB b2 [], mapOb eI eI b3 [], mapOb eD eI b4 [], .var bt 78 [.map (some b1), .map (some b2), .map (some b3), .map (some b4)], rowOb (fInt .i64) 3 vt (tab idf i.toNat), rowOb (fInt .i64) 3 (.slice none 0 0) []] ∧ 0 ≤ i ∧ i ≤ sp.length ∧ k = sp.length - i.toNat) sp.length ⟨0, _, ⟨rfl, rfl, rfl, rfl, rfl, rfl, trivial⟩, S, by omega, by omega, by omega⟩ ?_
  clear S hs
  rintro k σ w1 ⟨i, vt, hs, S, hi0, hi1, hk⟩
  refine WP_has hs ?_
  by_cases hi : i < sp.length
  · have hlen := @tab_len idf i.toNat
    repeat' (first | refine WP_seq ?_ | refine WP_region ?_ | refine wl_nil ?_ | refine then_normal ?_ | refine WP_skip ?_ | refine WP_block ?_ | (refine g_move ?_; refine st_move rfl ?_) | (refine g_assign ?_; refine st_assign rfl ?_) | (refine g_b_lss ?_; refine st_val rfl (r_lss rfl rfl) ?_) | (refine WP_cond rfl (fun h => ?_) (fun h => ?_) <;> (fail_if_success (have hh : true = true := h)) <;> (fail_if_success (have hh : false = false := h)) <;> (try simp only [decide_eq_true_eq, decide_eq_false_iff_not, Bool.not_eq_true', Bool.not_eq_false', Int.not_lt, Int.not_le] at h) <;> (try (exfalso; omega))))
    refine st_valE rfl (r_litF (D := fInt .i64) [i] (Value.int .i64) S rfl rfl (fun _ => rfl) rfl (by decide) (by decide)) ?_
    rintro _ w ⟨bl, rfl, -, hcl, S'⟩; replace S := S'; clear S'
    refine st_valE rfl (r_append1 (D := fInt .i64) (i := 6) (b := bl) (x := i) S rfl rfl rfl (fl_one hcl) rfl (by decide) (of_decide_eq_true rfl) (by omega) (by omega)) ?_
    rintro vt' w ⟨-, S'⟩; replace S := S'; clear S' hcl
    rw [tab_id_take (n := sp.length) hi0 hi] at S
    repeat' (first | refine WP_region ?_ | refine wl_nil ?_ | refine then_normal ?_ | refine inB_normal ?_ | (refine g_move ?_; refine st_move rfl ?_) | (refine g_assign ?_; refine st_assign rfl ?_) | (refine g_b_add ?_; (refine st_val rfl (r_addN rfl rfl ?_ ?_) ?_; (first | omega | (simp <;> omega)); (first | omega | (simp <;> omega)))))
    refine ⟨⟨_, ?_, i + 1, vt', ⟨rfl, rfl, rfl, rfl, rfl, rfl, trivial⟩, S.keep [true, true, true, true, true, true, true, true], by omega, by omega, rfl⟩⟩
    omega
  have hin : i.toNat = sp.length := by omega
  rw [hin] at S
  repeat' (first | refine WP_seq ?_ | refine WP_region ?_ | refine wl_nil ?_ | refine then_normal ?_ | refine then_exit ?_ | refine inB_here ?_ | refine WP_exit ?_ | (refine g_move ?_; refine st_move rfl ?_) | (refine g_b_lss ?_; refine st_val rfl (r_lss rfl rfl) ?_) | (refine g_makeFunc ?_; refine st_val rfl (r_makeFn1 rfl) ?_) | (refine WP_cond rfl (fun h => ?_) (fun h => ?_) <;> (fail_if_success (have hh : true = true := h)) <;> (fail_if_success (have hh : false = false := h)) <;> (try simp only [decide_eq_true_eq, decide_eq_false_iff_not, Bool.not_eq_true', Bool.not_eq_false', Int.not_lt, Int.not_le] at h) <;> (try (exfalso; omega))))
  replace S : St w0 w1 (rowT vt idf sp.length :: .var bs 36 [.slice A2 sp.length c2] :: [mapOb eI eC b1 (cM l), mapOb eP eB b2 [], mapOb eI eI b3 [], mapOb eD eI b4 [], .var bt 78 [.map (some b1), .map (some b2), .map (some b3), .map (some b4)], rowOb (fInt .i64) 3 (.slice none 0 0) []]) := S.perm (List.perm_middle (l₁ := [_, _, _, _, _, _]))
  refine st_callW rfl (r_call2 rfl rfl rfl) (sort_run S hr2 rfl (by omega)) ?_
  rintro u w ⟨g, hgp, hgw, S'⟩
  replace S := S'; clear S'
  obtain ⟨turn, ht⟩ : ∃ turn, tab g sp.length = turn := ⟨_, rfl⟩
  have hO : Ord sp turn := ⟨by rw [← ht]; exact hgp, by rw [← ht]; exact hgw⟩
  replace S : St w0 w [rowOb (fInt .i64) 3 vt turn, .var bs 36 [.slice A2 sp.length c2], mapOb eI eC b1 (cM l), mapOb eP eB b2 [], mapOb eI eI b3 [], mapOb eD eI b4 [], .var bt 78 [.map (some b1), .map (some b2), .map (some b3), .map (some b4)], rowOb (fInt .i64) 3 (.slice none 0 0) []] := by rw [← ht]; exact S
  have hOl := hO.len
  obtain ⟨A3, c3, hz⟩ := (S.rdRow (D := fInt .i64) (i := 0) rfl).len; subst hz
  repeat' (first | refine WP_seq ?_ | refine WP_region ?_ | refine wl_nil ?_ | refine then_normal ?_ | refine WP_block ?_ | (refine g_move ?_; refine st_move rfl ?_) | (refine g_c_len ?_; refine st_val rfl (r_lenSlice rfl) ?_))
  refine WP_loop (fun k σ w1 => ∃ (i : Int) (vo : Value) (Sp : List (GSpot × Bool)) (Mn : List (Int × Int)) (Dy : List (GDay × Int)) (out : List Int), Has σ [(3, .pointer (some ⟨bs, 0, none⟩)), (7, .pointer (some ⟨bt, 0, none⟩)), (11, vo), (57, .slice A3 turn.length c3), (58, .int .i64 turn.length), (59, .int .i64 i)] ∧ St w0 w1 [rowOb (fInt .i64) 3 (.slice A3 turn.length c3) turn, .var bs 36 [.slice A2 sp.length c2], mapOb eI eC b1 (cM l), mapOb eP eB b2 Sp, mapOb eI eI b3 Mn, mapOb eD eI b4 Dy, .var bt 78 [.map (some b1), .map (some b2), .map (some b3), .map (some b4)], rowOb (fInt .i64) 3 vo out] ∧ 0 ≤ i ∧ i ≤ turn.length ∧ out = outOf l sp (turn.take i.toNat) ∧ Tal l (spAt sp out) (cM l) Sp Mn Dy ∧ k = turn.length - i.toNat) turn.length ⟨0, _, [], [], [], [], ⟨rfl, rfl, rfl, rfl, rfl, rfl, trivial⟩, S, by omega, by omega, rfl, Tal.start, by omega⟩ ?_
  clear S hs
  rintro k σ w1 ⟨i, vo, Sp, Mn, Dy, out, hs, S, hi0, hi1, hout, hT, hk⟩
  refine WP_has hs ?_
  have hol : out.length ≤ 60 := by
    have := outOf_len (l := l) (sp := sp) (turn.take i.toNat)
    rw [List.length_take] at this; rw [hout]; omega
  have hmem : ∀ s ∈ spAt sp out, s ∈ sp := by
    rw [hout]; exact spAt_mem fun x hx => hO.mem (List.mem_of_mem_take hx)
  have hsl : (spAt sp out).length ≤ 60 := by unfold spAt; rw [List.length_map]; exact hol
  by_cases hi : i < turn.length
  · obtain ⟨j, hj⟩ : ∃ j, nth turn i = j := ⟨_, rfl⟩
    have hjr := hO.mem (nth_mem hi0 hi)
    rw [hj] at hjr
    obtain ⟨x, hx⟩ : ∃ x, nth sp j = x := ⟨_, rfl⟩
    have hxs : x ∈ sp := by rw [← hx]; exact nth_mem hjr.1 hjr.2
    have hxr := validP_at h2 hxs
    have hsr : ∀ s ∈ Sp, 0 ≤ s.1.At ∧ s.1.At ≤ 9999999 := by
      intro s hs
      rw [hT.s] at hs
      obtain ⟨y, hy, rfl⟩ := List.mem_map.1 hs
      exact (validP_at h2 (hmem y hy)).2.2
    have hr := hT.rsn x
    have hstep : outOf l sp (turn.take (i + 1).toNat) = if rsn l (spAt sp out) x = 0 then out ++ [j] else out := by
      rw [foldl_at hi0 hi, hj, ← hout]; unfold stepO; rw [hx]
    subst hx
    subst hj
    have hcm := hT.m (nth sp (nth turn i)).Contract
    have hcr := @cntC_le (spAt sp out) (nth sp (nth turn i)).Contract
    have hcd := hT.d (onD (nth sp (nth turn i)))
    have hdr := @cntD_le (spAt sp out) (onD (nth sp (nth turn i)))
    by_cases h0 : rsn l (spAt sp out) (nth sp (nth turn i)) = 0
    · rw [h0] at hr
      rw [if_pos h0] at hstep
      repeat' (first | refine WP_seq ?_ | refine WP_region ?_ | refine wl_nil ?_ | refine then_normal ?_ | refine WP_skip ?_ | refine WP_block ?_ | refine WP_condT rfl ?_ | refine WP_drawTail 5 (by kernel_rfl) (by decide +kernel) ?_ | refine WP_drawTail 8 (by kernel_rfl) (by decide +kernel) ?_ | (refine ql_nil ?_; intro w hb; replace S := S.grow hb; clear hb) | (refine g_move ?_; refine st_move rfl ?_) | (refine g_assign ?_; refine st_assign rfl ?_) | (refine g_b_eql ?_; refine st_val rfl (r_eql rfl rfl) ?_) | (refine g_b_lss ?_; refine st_val rfl (r_lss rfl rfl) ?_) | (refine g_indexAddr ?_; first | (refine st_val rfl (r_indexAddr (hr2.mono S.below) rfl rfl ?_ ?_) ?_; (first | omega | (simp <;> omega)); (first | omega | (simp <;> omega))) | (refine st_val rfl (r_indexAddr (S.rdRow (D := (fInt .i64)) (i := 0) rfl) rfl rfl ?_ ?_) ?_; (first | omega | (simp <;> omega)); (first | omega | (simp <;> omega)))) | (refine g_load ?_; first | (refine st_val rfl (r_loadElem (hr2.mono S.below) rfl ?_ ?_) ?_; (first | omega | (simp <;> omega)); (first | omega | (simp <;> omega))) | (refine st_val rfl (r_loadElem1 (S.rdRow (D := (fInt .i64)) (i := 0) rfl) rfl ?_ ?_ rfl) ?_; (first | omega | (simp <;> omega)); (first | omega | (simp <;> omega))) | refine st_val rfl (r_loadVar (i := 1) S rfl rfl rfl) ?_ | refine st_val rfl (r_loadVarA (i := 8) S rfl rfl rfl rfl) ?_) | (refine g_callV ?_; (refine st_callV rfl (r_call2 rfl rfl rfl) (reason_is hr (talAt_of S) (hG.mono S.below) ⟨hxr.2.2.1, hxr.2.2.2⟩ hsr) ?_; intro w hb; replace S := S.grow hb; clear hb)) | (refine gq_move ?_; refine q_move rfl ?_) | (refine gq_b_add ?_; (refine q_val rfl (fun w' hb => r_addN rfl rfl ?_ ?_) ?_; (first | omega | (simp <;> omega)); (first | omega | (simp <;> omega)))) | (refine gq_nilCheck ?_; refine q_val rfl (fun w' hb => r_nilCheck rfl) ?_) | (refine gq_fieldAddr ?_; refine q_val rfl (fun w' hb => r_fieldAddrL rfl) ?_) | (refine gq_load ?_; first | refine q_val rfl (fun w' hb => r_loadVar (i := 6) (S.grow hb) rfl rfl rfl) ?_ | refine q_val rfl (fun w' hb => r_loadVar (i := 8) (S.grow hb) rfl rfl rfl) ?_ | refine q_val rfl (fun w' hb => r_loadVarA (i := 8) (S.grow hb) rfl rfl rfl rfl) ?_) | (refine g_alloc ?_; refine st_valE rfl (r_alloc S) ?_; rintro _ w ⟨b, rfl, -, S'⟩; replace S := S'; clear S') | (refine g_store ?_; first | (refine st_skipE rfl (r_storeVar (i := 0) S rfl rfl rfl rfl (of_decide_eq_true rfl) (of_decide_eq_true rfl)) ?_; intro w S'; replace S := S'; clear S') | (refine st_skipE rfl (r_storeVar (i := 1) S rfl rfl rfl rfl (of_decide_eq_true rfl) (of_decide_eq_true rfl)) ?_; intro w S'; replace S := S'; clear S') | (refine st_skipE rfl (r_storeVar (i := 2) S rfl rfl rfl rfl (of_decide_eq_true rfl) (of_decide_eq_true rfl)) ?_; intro w S'; replace S := S'; clear S') | (refine st_skipE rfl (r_storeVar (i := 3) S rfl rfl rfl rfl (of_decide_eq_true rfl) (of_decide_eq_true rfl)) ?_; intro w S'; replace S := S'; clear S') | (refine st_skipE rfl (r_storeVar (i := 4) S rfl rfl rfl rfl (of_decide_eq_true rfl) (of_decide_eq_true rfl)) ?_; intro w S'; replace S := S'; clear S') | (refine st_skipE rfl (r_storeVar (i := 5) S rfl rfl rfl rfl (of_decide_eq_true rfl) (of_decide_eq_true rfl)) ?_; intro w S'; replace S := S'; clear S') | (refine st_skipE rfl (r_storeVar (i := 6) S rfl rfl rfl rfl (of_decide_eq_true rfl) (of_decide_eq_true rfl)) ?_; intro w S'; replace S := S'; clear S') | (refine st_skipE rfl (r_storeVar (i := 7) S rfl rfl rfl rfl (of_decide_eq_true rfl) (of_decide_eq_true rfl)) ?_; intro w S'; replace S := S'; clear S') | (refine st_skipE rfl (r_storeVar (i := 8) S rfl rfl rfl rfl (of_decide_eq_true rfl) (of_decide_eq_true rfl)) ?_; intro w S'; replace S := S'; clear S')) | (refine st_skipE rfl (r_mapUpdate (i := 3) (eK := eP) (eV := eB) (k := nth sp (nth turn i)) (v := true) S rfl rfl rfl rfl) ?_; intro w S'; replace S := S'; clear S') | (refine q_val rfl (fun w' hb => r_lookup1D (k := (nth sp (nth turn i)).Contract) (eK := eI) (eV := eI) 0 rfl ((S.grow hb).mapAt (i := 4) rfl) rfl rfl) ?_) | (refine st_skipE rfl (r_mapUpdate (i := 4) (eK := eI) (eV := eI) (k := (nth sp (nth turn i)).Contract) (v := (mGet (nth sp (nth turn i)).Contract Mn).getD 0 + 1) S rfl rfl rfl rfl) ?_; intro w S'; replace S := S'; clear S') | (refine WP_cond rfl (fun h => ?_) (fun h => ?_) <;> (fail_if_success (have hh : true = true := h)) <;> (fail_if_success (have hh : false = false := h)) <;> (try simp only [decide_eq_true_eq, decide_eq_false_iff_not, Bool.not_eq_true', Bool.not_eq_false', Int.not_lt, Int.not_le] at h) <;> (try (exfalso; omega))))
      obtain ⟨x, hx⟩ : ∃ x, nth sp (nth turn i) = x := ⟨_, rfl⟩
      replace S : St w0 w [rowOb (fInt .i64) 3 (.slice A3 turn.length c3) turn, .var bs 36 [.slice A2 sp.length c2], mapOb eI eC b1 (cM l), mapOb eP eB b2 (mPut x true Sp), mapOb eI eI b3 (mPut x.Contract ((mGet x.Contract Mn).getD 0 + 1) Mn), mapOb eD eI b4 Dy, .var bt 78 [.map (some b1), .map (some b2), .map (some b3), .map (some b4)], rowOb (fInt .i64) 3 vo out, .var b 31 x.enc] := by rw [← hx]; exact S
      obtain ⟨dv, hdv⟩ : ∃ dv, (mGet (onD x) Dy).getD 0 = dv := ⟨_, rfl⟩
      refine WP_drawK (fun w' => ∃ Dy', (mGet (onD x) Dy').getD 0 = dv ∧ St w0 w' [rowOb (fInt .i64) 3 (.slice A3 turn.length c3) turn, .var bs 36 [.slice A2 sp.length c2], mapOb eI eC b1 (cM l), mapOb eP eB b2 (mPut x true Sp), mapOb eI eI b3 (mPut x.Contract ((mGet x.Contract Mn).getD 0 + 1) Mn), mapOb eD eI b4 Dy', .var bt 78 [.map (some b1), .map (some b2), .map (some b3), .map (some b4)], rowOb (fInt .i64) 3 vo out, .var b 31 x.enc]) [0, 1, 2, 3, 4] 5 [6, 7] [8, 9] [10] _ rfl (by kernel_rfl) (by decide) (by decide +kernel) (fun w' hb => ⟨Dy, hdv, S.grow hb⟩) ?_
      intro w' hb; replace S := S.grow hb; clear hb
      have hdb : 0 ≤ dv ∧ dv ≤ 60 := by rw [← hdv, ← hx, hcd]; omega
      rw [hx] at h0 hxr
      refine jq_val rfl (fun w' hJ => ⟨rfl⟩) ?_
      refine jq_val rfl (fun w' hJ => r_nilCheck rfl) ?_
      refine jq_val rfl (fun w' hJ => r_fieldAddrL rfl) ?_
      refine jq_val (v := .map (some b4)) rfl (fun w' hJ => by obtain ⟨Dy', hd, S'⟩ := hJ; exact r_loadVar (i := 6) S' rfl rfl rfl) ?_
      refine jq_val (v := .agg x.enc.toArray) rfl (fun w' hJ => by obtain ⟨Dy', hd, S'⟩ := hJ; exact r_loadVarA (i := 8) S' rfl rfl rfl rfl) ?_
      refine jq_nil ?_
      refine kq_callV rfl (r_call1 rfl rfl) (on_spec hxr.2.2.1 hxr.2.2.2) ?_
      intro w2 hb; replace S := S.grow hb; clear hb
      refine ⟨⟨Dy, hdv, S⟩, ?_⟩
      refine jq_val (v := .int .i64 dv) rfl (fun w' hJ => by obtain ⟨Dy', hd, S'⟩ := hJ; rw [← hd]; exact r_lookup1D (k := onD x) (eK := eD) (eV := eI) 0 rfl (S'.mapAt (i := 5) rfl) rfl rfl) ?_
      refine jq_val (v := .int .i64 (dv + 1)) rfl (fun w' hJ => r_addN rfl rfl (by omega) (by omega)) ?_
      refine jq_nil ?_
      refine wj_valE rfl (r_mapEntry (i := 5) (eK := eD) (eV := eI) (k := onD x) 0 S rfl rfl rfl rfl) ?_
      rintro _ w3 ⟨j, y, rfl, hf, S'⟩
      have htg : (mGet (onD x) (mTouch (onD x) 0 Dy)).getD 0 = dv := by rw [touch_get]; exact hdv
      refine ⟨⟨_, htg, S'⟩, ?_⟩
      refine wj_val rfl (r_extract rfl rfl) ⟨_, htg, S'⟩ ?_
      refine wj_nil ?_
      refine st_skipE rfl (r_entryStore (i := 5) (eK := eD) (eV := eI) (k := onD x) (v := dv + 1) S' rfl rfl rfl rfl hf) ?_
      intro w S2
      rw [mTouch_put] at S2
      clear S S' hf
      have S := S2; clear S2
      have hT' := hT.step h0
      rw [hdv] at hT'
      repeat' (first | refine WP_region ?_ | refine wl_nil ?_ | refine then_normal ?_ | (refine g_move ?_; refine st_move rfl ?_))
      refine st_valE rfl (r_litF (D := fInt .i64) [nth turn i] (Value.int .i64) S rfl rfl (fun _ => rfl) rfl (by decide) (by decide)) ?_
      rintro _ w ⟨bl, rfl, -, hcl, S'⟩; replace S := S'; clear S'
      refine st_valE rfl (r_append1 (D := fInt .i64) (i := 7) (b := bl) (x := nth turn i) S rfl rfl rfl (fl_one hcl) rfl (by decide) (of_decide_eq_true rfl) (by omega) (by omega)) ?_
      rintro vo' w ⟨-, S'⟩; replace S := S'; clear S' hcl
      repeat' (first | refine WP_region ?_ | refine wl_nil ?_ | refine then_normal ?_ | refine inB_normal ?_ | (refine g_move ?_; refine st_move rfl ?_) | (refine g_assign ?_; refine st_assign rfl ?_) | (refine g_b_add ?_; (refine st_val rfl (r_addN rfl rfl ?_ ?_) ?_; (first | omega | (simp <;> omega)); (first | omega | (simp <;> omega)))))
      refine ⟨⟨_, ?_, i + 1, vo', _, _, _, _, ⟨rfl, rfl, rfl, rfl, rfl, rfl, trivial⟩, S.keep [true, true, true, true, true, true, true, true], by omega, by omega, hstep.symm, ?_, rfl⟩⟩
      · omega
      · rw [show spAt sp (out ++ [nth turn i]) = spAt sp out ++ [x] by unfold spAt; rw [List.map_append, ← hx]; rfl]
        exact hT'
    · rw [if_neg h0] at hstep
      repeat' (first | refine WP_seq ?_ | refine WP_region ?_ | refine wl_nil ?_ | refine then_normal ?_ | refine inB_normal ?_ | refine WP_skip ?_ | refine WP_block ?_ | (refine g_move ?_; refine st_move rfl ?_) | (refine g_assign ?_; refine st_assign rfl ?_) | (refine g_b_add ?_; (refine st_val rfl (r_addN rfl rfl ?_ ?_) ?_; (first | omega | (simp <;> omega)); (first | omega | (simp <;> omega)))) | (refine g_b_eql ?_; refine st_val rfl (r_eql rfl rfl) ?_) | (refine g_b_lss ?_; refine st_val rfl (r_lss rfl rfl) ?_) | (refine g_indexAddr ?_; first | (refine st_val rfl (r_indexAddr (hr2.mono S.below) rfl rfl ?_ ?_) ?_; (first | omega | (simp <;> omega)); (first | omega | (simp <;> omega))) | (refine st_val rfl (r_indexAddr (S.rdRow (D := (fInt .i64)) (i := 0) rfl) rfl rfl ?_ ?_) ?_; (first | omega | (simp <;> omega)); (first | omega | (simp <;> omega)))) | (refine g_load ?_; first | (refine st_val rfl (r_loadElem (hr2.mono S.below) rfl ?_ ?_) ?_; (first | omega | (simp <;> omega)); (first | omega | (simp <;> omega))) | (refine st_val rfl (r_loadElem1 (S.rdRow (D := (fInt .i64)) (i := 0) rfl) rfl ?_ ?_ rfl) ?_; (first | omega | (simp <;> omega)); (first | omega | (simp <;> omega))) | refine st_val rfl (r_loadVar (i := 1) S rfl rfl rfl) ?_ | refine st_val rfl (r_loadVarA (i := 8) S rfl rfl rfl rfl) ?_) | (refine g_callV ?_; (refine st_callV rfl (r_call2 rfl rfl rfl) (reason_is hr (talAt_of S) (hG.mono S.below) ⟨hxr.2.2.1, hxr.2.2.2⟩ hsr) ?_; intro w hb; replace S := S.grow hb; clear hb)) | (refine g_alloc ?_; refine st_valE rfl (r_alloc S) ?_; rintro _ w ⟨b, rfl, -, S'⟩; replace S := S'; clear S') | (refine g_store ?_; first | (refine st_skipE rfl (r_storeVar (i := 0) S rfl rfl rfl rfl (of_decide_eq_true rfl) (of_decide_eq_true rfl)) ?_; intro w S'; replace S := S'; clear S') | (refine st_skipE rfl (r_storeVar (i := 1) S rfl rfl rfl rfl (of_decide_eq_true rfl) (of_decide_eq_true rfl)) ?_; intro w S'; replace S := S'; clear S') | (refine st_skipE rfl (r_storeVar (i := 2) S rfl rfl rfl rfl (of_decide_eq_true rfl) (of_decide_eq_true rfl)) ?_; intro w S'; replace S := S'; clear S') | (refine st_skipE rfl (r_storeVar (i := 3) S rfl rfl rfl rfl (of_decide_eq_true rfl) (of_decide_eq_true rfl)) ?_; intro w S'; replace S := S'; clear S') | (refine st_skipE rfl (r_storeVar (i := 4) S rfl rfl rfl rfl (of_decide_eq_true rfl) (of_decide_eq_true rfl)) ?_; intro w S'; replace S := S'; clear S') | (refine st_skipE rfl (r_storeVar (i := 5) S rfl rfl rfl rfl (of_decide_eq_true rfl) (of_decide_eq_true rfl)) ?_; intro w S'; replace S := S'; clear S') | (refine st_skipE rfl (r_storeVar (i := 6) S rfl rfl rfl rfl (of_decide_eq_true rfl) (of_decide_eq_true rfl)) ?_; intro w S'; replace S := S'; clear S') | (refine st_skipE rfl (r_storeVar (i := 7) S rfl rfl rfl rfl (of_decide_eq_true rfl) (of_decide_eq_true rfl)) ?_; intro w S'; replace S := S'; clear S') | (refine st_skipE rfl (r_storeVar (i := 8) S rfl rfl rfl rfl (of_decide_eq_true rfl) (of_decide_eq_true rfl)) ?_; intro w S'; replace S := S'; clear S')) | (refine WP_cond rfl (fun h => ?_) (fun h => ?_) <;> (fail_if_success (have hh : true = true := h)) <;> (fail_if_success (have hh : false = false := h)) <;> (try simp only [decide_eq_true_eq, decide_eq_false_iff_not, Bool.not_eq_true', Bool.not_eq_false', Int.not_lt, Int.not_le] at h) <;> (try (exfalso; omega))))
      refine ⟨⟨_, ?_, i + 1, vo, Sp, Mn, Dy, out, ⟨rfl, rfl, rfl, rfl, rfl, rfl, trivial⟩, S.keep [true, true, true, true, true, true, true, true], by omega, by omega, hstep.symm, hT, rfl⟩⟩
      omega
  repeat' (first | refine WP_seq ?_ | refine WP_region ?_ | refine wl_nil ?_ | refine then_normal ?_ | refine then_exit ?_ | refine inB_here ?_ | refine WP_ret ?_ | refine WP_exit ?_ | (refine g_move ?_; refine st_move rfl ?_) | (refine g_assign ?_; refine st_assign rfl ?_) | (refine g_b_lss ?_; refine st_val rfl (r_lss rfl rfl) ?_) | (refine WP_cond rfl (fun h => ?_) (fun h => ?_) <;> (fail_if_success (have hh : true = true := h)) <;> (fail_if_success (have hh : false = false := h)) <;> (try simp only [decide_eq_true_eq, decide_eq_false_iff_not, Bool.not_eq_true', Bool.not_eq_false', Int.not_lt, Int.not_le] at h) <;> (try (exfalso; omega))))
  have hit : i.toNat = turn.length := by omega
  rw [hit, List.take_length] at hout
  subst hout
  exact end3 rfl rfl rfl rfl ⟨_, rfl, S.below, bt, b1, b2, b3, b4, Sp, Mn, Dy, vo, turn, hO, rfl, hT, S.keep [false, false, true, true, true, true, true, true]⟩
end Go.Proofs.YteplelijhkmbkaaDoor
