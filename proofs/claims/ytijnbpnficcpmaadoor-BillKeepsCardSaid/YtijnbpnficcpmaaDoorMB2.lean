/- Merged texts: BO, PA, BP, BQ, BS, QA, QB, QC, QD, BT, QE, LD, QF, LE. -/
import Derived.Test.YtijnbpnficcpmaaDoorMB1
import Derived.Test.YtijnbpnficcpmaaDoorMG2
import Derived.Test.YtijnbpnficcpmaaDoorMC2
/- bill's charge. -/
namespace Go.Proofs.YtijnbpnficcpmaaDoor
open Go Go.Gx Go.RowKit
set_option linter.unusedVariables false
set_option linter.unusedSimpArgs false

theorem lastH_chg {L : List GPosting} {id : Int} : ∀ n, chg L id n = match lastH (hitC L id) n with | none => -1 | some k => (k : Int)
  | 0 => rfl
  | n + 1 => by
    unfold chg lastH
    cases h : hitC L id n with
    | true => rfl
    | false => exact lastH_chg n
theorem back_run {A : Option Addr} {n c : Nat} {w0 : World} : CallsR Tryd.prog 107 #[.slice A n c] w0 fun r w' => ∃ b, r = .func (.func 114) #[] [.pointer (some ⟨b, 0, none⟩)].toArray ∧ St w0 w' [.var b 25 [.slice A n c]] := by
  have S := St.start w0
  refine CallsR.mk ?_
  refine calls_enter Tryd.func107 rfl (by intro _ h; first | exact nomatch h.1 | (obtain ⟨_, h, _⟩ := h; exact nomatch h)) Tryd.ntmps107 rfl ?_
  repeat' (first | refine WP_seq ?_ | refine WP_region ?_ | refine wl_nil ?_ | refine then_normal ?_ | refine WP_ret ?_ | (refine g_assign ?_; refine st_assign rfl ?_) | (refine g_makeFunc ?_; refine st_val rfl (r_makeFn1 rfl) ?_) | (refine g_box ?_; refine st_valE rfl (r_box S rfl) ?_; rintro _ w ⟨b, rfl, -, S'⟩; replace S := S'; clear S'))
  exact end1 rfl rfl ⟨_, rfl, S.below, _, rfl, S⟩
theorem runs_as {P : Program} {ρ : Operand → Value} {o : Oper} {w w' : World} {v u : Value} (h : Go.Gx.Runs P ρ o w (.ok (.value v) w')) (e : v = u) : Go.Gx.Runs P ρ o w (.ok (.value u) w') := e ▸ h
/-- A result that lies in a variable. -/
theorem res_cell {P : Program} {fn : Func} {n : Nat} {σ : Nat → Value} {w0 w : World} {t T b i : Nat} {os : List Ob} {T' : TypeId} {v : Value} [hT : TF P T false 1]
    (hr : fn.results = #[.cell t T]) (hv : cut n σ t = .pointer (some ⟨b, 0, none⟩)) (S : St w0 w os) (hi : os[i]? = some (.var b T' [v])) : (results fn (Go.Gx.Fr n σ).tmps).run P w = .ok v w := by
  unfold results
  rw [hr]
  refine (run_bind (mapM_one (b := v) ?_)).trans rfl
  show (do loadVar T (← asAddr ((Go.Gx.Fr n σ).tmps.getD t undef)) : Sem Value).run P w = _
  rw [Fr_getD, hv]
  exact loadVar1 S hi
theorem Fr_set2 (n : Nat) (σ : Nat → Value) (p q : Nat) (v u : Value) : ((Go.Gx.Fr n σ).tmps.setIfInBounds p v).setIfInBounds q u = (Go.Gx.Fr n (upd (upd σ p v) q u)).tmps := by rw [Fr_set, Fr_set]
/-- The cells of a book that is being settled. -/
abbrev blC (acc : Int) (v : Value) (cl : Int) (x : Bool) : List Value := [.int .i64 acc, v, .int .i64 cl, .bool x]
abbrev chO (b3 b4 b5 bm : Nat) (id x : Int) (m : List (Int × Bool)) : List Ob := [mapOb eI eB bm m, .var b3 3 [.int .i64 id], .var b4 3 [.int .i64 x], .var b5 155 [.map (some bm)]]
set_option maxRecDepth 20000 in
set_option maxHeartbeats 1000000 in
theorem charge_run {bl : Nat} {acc cl id : Int} {x : Bool} {L : List GPosting} {v : Value} {w0 : World} (hc : CellsAt w0 ⟨bl, 0, none⟩ (blC acc v cl x)) (hr : Rd fGPosting.ty w0 v L) (hl : L.length ≤ 1000000000) :
    CallsR Tryd.prog 85 #[.pointer (some ⟨bl, 0, none⟩), .int .i64 id] w0 fun r w' => r = .int .i64 (chargeI L id) := by
  have S := St.start w0
  obtain ⟨A0, c, rfl⟩ := hr.len
  refine CallsR.mk ?_
  refine calls_enterD Tryd.func85 rfl Tryd.ntmps85 rfl ?_
  refine WD_seq (WD_of ?_)
  repeat' (first | refine WP_region ?_ | refine wl_nil ?_ | (refine g_box ?_; refine st_valE rfl (r_box S rfl) ?_; rintro _ w ⟨b, rfl, -, S'⟩; replace S := S'; clear S') | (refine g_alloc ?_; refine st_valE rfl (r_alloc S) ?_; rintro _ w ⟨b, rfl, -, S'⟩; replace S := S'; clear S'))
  refine thenD_normal (WD_seq (WD_of ?_))
  repeat' (refine WP_region ?_)
  refine st_valE rfl (r_makeMap (eK := eI) (eV := eB) S) ?_
  rintro _ w ⟨bm, rfl, -, S'⟩; replace S := S'; clear S'
  repeat' (first | refine wl_nil ?_ | (refine g_alloc ?_; refine st_valE rfl (r_alloc S) ?_; rintro _ w ⟨b, rfl, -, S'⟩; replace S := S'; clear S') | (refine g_store ?_; first | (refine st_skipE rfl (r_storeVar (i := 0) S rfl rfl rfl rfl (of_decide_eq_true rfl) (of_decide_eq_true rfl)) ?_; intro w S'; replace S := S'; clear S') | (refine st_skipE rfl (r_storeVar (i := 1) S rfl rfl rfl rfl (of_decide_eq_true rfl) (of_decide_eq_true rfl)) ?_; intro w S'; replace S := S'; clear S') | (refine st_skipE rfl (r_storeVar (i := 2) S rfl rfl rfl rfl (of_decide_eq_true rfl) (of_decide_eq_true rfl)) ?_; intro w S'; replace S := S'; clear S') | (refine st_skipE rfl (r_storeVar (i := 3) S rfl rfl rfl rfl (of_decide_eq_true rfl) (of_decide_eq_true rfl)) ?_; intro w S'; replace S := S'; clear S')))
  refine thenD_normal (WD_seq (WD_seq (WD_of ?_)))
  repeat' (first | refine WP_region ?_ | (refine g_move ?_; refine st_move rfl ?_) | (refine g_nilCheck ?_; refine st_val rfl (r_nilCheck rfl) ?_) | (refine g_fieldAddr ?_; refine st_val rfl (r_fieldAddrL rfl) ?_) | (refine g_load ?_; refine st_val rfl (r_loadAt (hc.mono S.below) rfl rfl) ?_))
  refine st_callR rfl (r_call1 rfl rfl) back_run ?_
  rintro _ w hb ⟨bv, rfl, S'⟩
  replace S := S.join S'
  clear S' hb
  rename_i b3 _ b4 _ _ _
  obtain ⟨b5, rfl⟩ : ∃ x, x = b := ⟨_, rfl⟩
  repeat' (refine wl_nil ?_)
  refine thenD_normal (WD_block (WD_range S rfl ?_))
  clear S
  intro fn Lp Dk w1 r hrr S
  have hrn : recJ r none = r := by subst hrr; rfl
  have hY : YldP w0 (fun n => .raw Lp (.loop r) :: chO b3 b4 b5 bm id 0 (bmD (L.drop n))) (fun n => .raw Lp (.loop (recJ r (some .ret))) :: chO b3 b4 b5 bm id n (bmD (L.drop (n + 1)))) (hitC L id) L Lp := by
    clear S
    intro n ex w hn S ρ d ty pos af g fo a0 a1 ats hf h0 h1
    subst hrr
    refine ⟨fn, _, _, _, r_yield2 S (i := 0) rfl hf h0 h1 rfl, ?_⟩
    refine round_WP S rfl rfl rfl (Fr_set2 _ _ _ _ _ _) ?_
    refine WP_has (l := [(3, .pointer (some ⟨b3, 0, none⟩)), (4, .pointer (some ⟨b4, 0, none⟩)), (5, .pointer (some ⟨b5, 0, none⟩)), (15, .int .i64 n), (16, .agg (nth L (n : Int)).enc.toArray)]) ⟨rfl, rfl, rfl, rfl, rfl, trivial⟩ ?_
    repeat' (first | refine WP_seq ?_ | refine WP_region ?_ | refine wl_nil ?_ | refine then_normal ?_ | (refine g_assign ?_; refine st_assign rfl ?_) | (refine g_alloc ?_; refine st_valE rfl (r_alloc S) ?_; rintro _ w ⟨b, rfl, -, S'⟩; replace S := S'.front; clear S') | (refine g_store ?_; (refine st_skipE rfl (r_storeVar (i := 0) S rfl rfl rfl rfl (of_decide_eq_true rfl) (of_decide_eq_true rfl)) ?_; intro w S'; replace S := S'; clear S')))
    refine ⟨rfl, _, (show St w0 w (.var b 84 (nth L (n : Int)).enc :: .raw Lp _ :: (chO b3 b4 b5 bm id 0 (bmD (L.drop (n + 1))) ++ ex)) from S).perm (List.Perm.swap _ _ _), fun w3 S3 => ?_⟩
    replace S : St w0 w3 (.raw Lp _ :: .var b 84 (nth L (n : Int)).enc :: (chO b3 b4 b5 bm id 0 (bmD (L.drop (n + 1))) ++ ex)) := S3
    clear S3
    have hdr : bmD (L.drop n) = if (nth L (n : Int)).Kind = 3 then mPut (nth L (n : Int)).Of true (bmD (L.drop (n + 1))) else bmD (L.drop (n + 1)) := by rw [drop_nth hn]; rfl
    have hbg := @bmD_get (n : Int) (L.drop (n + 1))
    by_cases hk : (nth L (n : Int)).Kind = 3
    · rw [if_pos hk] at hdr
      have hh : hitC L id n = false := by unfold hitC; rw [decide_eq_false (fun h => h.1 hk)]; rfl
      repeat' (first | refine WP_seq ?_ | refine WP_region ?_ | refine wl_nil ?_ | refine then_normal ?_ | refine inB_normal ?_ | refine WP_block ?_ | (refine g_b_eql ?_; refine st_val rfl (r_eql rfl rfl) ?_) | (refine g_fieldAddr ?_; refine st_val rfl (r_fieldAddrL rfl) ?_) | (refine g_load ?_; first | refine st_val rfl (r_loadVar (i := 1) S rfl rfl rfl) ?_ | refine st_val rfl (r_loadVar (i := 5) S rfl rfl rfl) ?_) | (refine st_skipE rfl (r_mapUpdate (i := 2) (eK := eI) (eV := eB) (k := (nth L (n : Int)).Of) (v := true) S rfl rfl rfl rfl) ?_; intro w S'; replace S := S'; clear S') | (refine WP_cond rfl (fun h => ?_) (fun h => ?_) <;> (fail_if_success (have hh : true = true := h)) <;> (fail_if_success (have hh : false = false := h)) <;> (try simp only [decide_eq_true_eq, decide_eq_false_iff_not, Bool.not_eq_true', Bool.not_eq_false', Int.not_lt, Int.not_le] at h) <;> (try (exfalso; omega))))
      refine ⟨none, _, rfl, S, fun w5 S5 => .inr ⟨hh, rfl, ?_⟩⟩
      have S6 := (S5.perm (List.Perm.swap _ _ _)).tail
      show St w0 w5 (.raw Lp _ :: (chO b3 b4 b5 bm id 0 (bmD (L.drop n)) ++ ex))
      rw [hdr]
      exact S6
    · rw [if_neg hk] at hdr
      by_cases hid : (nth L (n : Int)).Subject = id
      · obtain ⟨bb, hbb⟩ : ∃ bb, (mGet (n : Int) (bmD (L.drop (n + 1)))).getD false = bb := ⟨_, rfl⟩
        have hh : hitC L id n = !bb := by unfold hitC; rw [decide_eq_true ⟨hk, hid⟩, ← hbg, hbb]; rfl
        cases bb
        · repeat' (first | refine WP_seq ?_ | refine WP_region ?_ | refine wl_nil ?_ | refine then_normal ?_ | refine inB_ret ?_ | refine WP_ret ?_ | refine WP_block ?_ | refine WP_condT rfl ?_ | (refine g_move ?_; refine st_move rfl ?_) | (refine g_pick ?_; refine st_pickT rfl rfl ?_) | (refine g_b_eql ?_; refine st_val rfl (r_eql rfl rfl) ?_) | (refine g_un ?_; refine st_val rfl (r_not rfl) ?_) | (refine g_fieldAddr ?_; refine st_val rfl (r_fieldAddrL rfl) ?_) | (refine g_load ?_; first | refine st_val rfl (r_loadVar (i := 1) S rfl rfl rfl) ?_ | refine st_val rfl (r_loadVar (i := 3) S rfl rfl rfl) ?_ | refine st_val rfl (r_loadVar (i := 5) S rfl rfl rfl) ?_) | (refine g_store ?_; first | (refine st_skipE rfl (r_storeVar (i := 0) S rfl rfl rfl rfl (of_decide_eq_true rfl) (of_decide_eq_true rfl)) ?_; intro w S'; replace S := S'; clear S') | (refine st_skipE rfl (r_storeVar (i := 1) S rfl rfl rfl rfl (of_decide_eq_true rfl) (of_decide_eq_true rfl)) ?_; intro w S'; replace S := S'; clear S') | (refine st_skipE rfl (r_storeVar (i := 2) S rfl rfl rfl rfl (of_decide_eq_true rfl) (of_decide_eq_true rfl)) ?_; intro w S'; replace S := S'; clear S') | (refine st_skipE rfl (r_storeVar (i := 3) S rfl rfl rfl rfl (of_decide_eq_true rfl) (of_decide_eq_true rfl)) ?_; intro w S'; replace S := S'; clear S') | (refine st_skipE rfl (r_storeVar (i := 4) S rfl rfl rfl rfl (of_decide_eq_true rfl) (of_decide_eq_true rfl)) ?_; intro w S'; replace S := S'; clear S') | (refine st_skipE rfl (r_storeVar (i := 5) S rfl rfl rfl rfl (of_decide_eq_true rfl) (of_decide_eq_true rfl)) ?_; intro w S'; replace S := S'; clear S')) | (refine st_val (v := .bool false) rfl (runs_as (r_lookup1D (k := (n : Int)) (eK := eI) (eV := eB) false rfl (S.mapAt (i := 2) rfl) rfl rfl) (congrArg Value.bool hbb)) ?_) | (refine wl_split rfl rfl (fun h => ?_) (fun h => ?_) <;> (fail_if_success (have hh : true = true := h)) <;> (fail_if_success (have hh : false = false := h)) <;> (try simp only [decide_eq_true_eq, decide_eq_false_iff_not, Bool.not_eq_true', Bool.not_eq_false', Int.not_lt, Int.not_le] at h) <;> (try (exfalso; omega))) | (refine WP_cond rfl (fun h => ?_) (fun h => ?_) <;> (fail_if_success (have hh : true = true := h)) <;> (fail_if_success (have hh : false = false := h)) <;> (try simp only [decide_eq_true_eq, decide_eq_false_iff_not, Bool.not_eq_true', Bool.not_eq_false', Int.not_lt, Int.not_le] at h) <;> (try (exfalso; omega))))
          refine ⟨some .ret, _, rfl, S, fun w5 S5 => .inl ⟨hh, rfl, ?_⟩⟩
          have S6 := (S5.perm (List.Perm.swap _ _ _)).tail
          show St w0 w5 (.raw Lp _ :: (chO b3 b4 b5 bm id n (bmD (L.drop (n + 1))) ++ ex))
          exact S6
        · repeat' (first | refine WP_seq ?_ | refine WP_region ?_ | refine wl_nil ?_ | refine then_normal ?_ | refine inB_normal ?_ | refine WP_skip ?_ | refine WP_block ?_ | refine WP_condF rfl ?_ | (refine g_move ?_; refine st_move rfl ?_) | (refine g_pick ?_; refine st_pickT rfl rfl ?_) | (refine g_b_eql ?_; refine st_val rfl (r_eql rfl rfl) ?_) | (refine g_un ?_; refine st_val rfl (r_not rfl) ?_) | (refine g_fieldAddr ?_; refine st_val rfl (r_fieldAddrL rfl) ?_) | (refine g_load ?_; first | refine st_val rfl (r_loadVar (i := 1) S rfl rfl rfl) ?_ | refine st_val rfl (r_loadVar (i := 3) S rfl rfl rfl) ?_ | refine st_val rfl (r_loadVar (i := 5) S rfl rfl rfl) ?_) | (refine st_val (v := .bool true) rfl (runs_as (r_lookup1D (k := (n : Int)) (eK := eI) (eV := eB) false rfl (S.mapAt (i := 2) rfl) rfl rfl) (congrArg Value.bool hbb)) ?_) | (refine wl_split rfl rfl (fun h => ?_) (fun h => ?_) <;> (fail_if_success (have hh : true = true := h)) <;> (fail_if_success (have hh : false = false := h)) <;> (try simp only [decide_eq_true_eq, decide_eq_false_iff_not, Bool.not_eq_true', Bool.not_eq_false', Int.not_lt, Int.not_le] at h) <;> (try (exfalso; omega))) | (refine WP_cond rfl (fun h => ?_) (fun h => ?_) <;> (fail_if_success (have hh : true = true := h)) <;> (fail_if_success (have hh : false = false := h)) <;> (try simp only [decide_eq_true_eq, decide_eq_false_iff_not, Bool.not_eq_true', Bool.not_eq_false', Int.not_lt, Int.not_le] at h) <;> (try (exfalso; omega))))
          refine ⟨none, _, rfl, S, fun w5 S5 => .inr ⟨hh, rfl, ?_⟩⟩
          have S6 := (S5.perm (List.Perm.swap _ _ _)).tail
          show St w0 w5 (.raw Lp _ :: (chO b3 b4 b5 bm id 0 (bmD (L.drop n)) ++ ex))
          rw [hdr]
          exact S6
      · have hh : hitC L id n = false := by unfold hitC; rw [decide_eq_false (fun h => hid h.2)]; rfl
        repeat' (first | refine WP_seq ?_ | refine WP_region ?_ | refine wl_nil ?_ | refine then_normal ?_ | refine inB_normal ?_ | refine WP_skip ?_ | refine WP_block ?_ | refine WP_condF rfl ?_ | (refine g_guard ?_; refine st_off rfl ?_) | (refine g_move ?_; refine st_move rfl ?_) | (refine g_pick ?_; refine st_pickF rfl rfl ?_) | (refine g_b_eql ?_; refine st_val rfl (r_eql rfl rfl) ?_) | (refine g_fieldAddr ?_; refine st_val rfl (r_fieldAddrL rfl) ?_) | (refine g_load ?_; first | refine st_val rfl (r_loadVar (i := 1) S rfl rfl rfl) ?_ | refine st_val rfl (r_loadVar (i := 3) S rfl rfl rfl) ?_) | (refine wl_split rfl rfl (fun h => ?_) (fun h => ?_) <;> (fail_if_success (have hh : true = true := h)) <;> (fail_if_success (have hh : false = false := h)) <;> (try simp only [decide_eq_true_eq, decide_eq_false_iff_not, Bool.not_eq_true', Bool.not_eq_false', Int.not_lt, Int.not_le] at h) <;> (try (exfalso; omega)) <;> (try (exfalso; omega; done))) | (refine WP_cond rfl (fun h => ?_) (fun h => ?_) <;> (fail_if_success (have hh : true = true := h)) <;> (fail_if_success (have hh : false = false := h)) <;> (try simp only [decide_eq_true_eq, decide_eq_false_iff_not, Bool.not_eq_true', Bool.not_eq_false', Int.not_lt, Int.not_le] at h) <;> (try (exfalso; omega)) <;> (try (exfalso; omega; done))))
        refine ⟨none, _, rfl, S, fun w5 S5 => .inr ⟨hh, rfl, ?_⟩⟩
        have S6 := (S5.perm (List.Perm.swap _ _ _)).tail
        show St w0 w5 (.raw Lp _ :: (chO b3 b4 b5 bm id 0 (bmD (L.drop n)) ++ ex))
        rw [hdr]
        exact S6
  have S2 := (show St w0 w1 [.raw Lp (.loop r), .raw Dk (.deferred (some [])), .var b3 3 [.int .i64 id], .var b4 3 [.int .i64 0], mapOb eI eB bm [], .var b5 155 [.map (some bm)], .var bv 25 [.slice A0 L.length c]] from S).perm ((List.perm_append_comm (l₁ := [_, _, _, _, _, _]) (l₂ := [_])).trans (List.Perm.cons _ (List.Perm.cons _ ((List.perm_append_comm (l₁ := [_]) (l₂ := [_, _, _, _])).trans (List.perm_middle (l₁ := [_, _]))))))
  have eN : bmD (L.drop L.length) = [] := by rw [List.drop_length]; rfl
  refine Calls.mono (bwd_run (ex := [.raw Dk (.deferred (some []))]) hY hr hl (by simp only [eN]; exact S2)).out ?_
  clear S S2
  rintro e w' ⟨u, rfl, hE⟩
  refine ⟨⟨u, rfl⟩, ?_⟩
  have hlc := @lastH_chg L id L.length
  cases hfd : lastH (hitC L id) L.length with
  | none =>
    rw [hfd] at hE hlc
    have hE := hE.perm (List.Perm.swap _ _ _)
    refine ⟨none, _, by rw [hrn]; exact hE, fun w2 S => inBD_normal (thenD_normal (WD_of ?_))⟩
    replace S : St w0 w2 [.var bv 25 [.slice A0 L.length c], mapOb eI eB bm (bmD (L.drop 0)), .var b3 3 [.int .i64 id], .var b4 3 [.int .i64 0], .var b5 155 [.map (some bm)], .raw Dk (.deferred (some []))] := S
    repeat' (first | refine WP_seq ?_ | refine WP_region ?_ | refine wl_nil ?_ | refine then_normal ?_ | refine WP_ret ?_ | (refine g_store ?_; first | (refine st_skipE rfl (r_storeVar (i := 0) S rfl rfl rfl rfl (of_decide_eq_true rfl) (of_decide_eq_true rfl)) ?_; intro w S'; replace S := S'; clear S') | (refine st_skipE rfl (r_storeVar (i := 1) S rfl rfl rfl rfl (of_decide_eq_true rfl) (of_decide_eq_true rfl)) ?_; intro w S'; replace S := S'; clear S') | (refine st_skipE rfl (r_storeVar (i := 2) S rfl rfl rfl rfl (of_decide_eq_true rfl) (of_decide_eq_true rfl)) ?_; intro w S'; replace S := S'; clear S') | (refine st_skipE rfl (r_storeVar (i := 3) S rfl rfl rfl rfl (of_decide_eq_true rfl) (of_decide_eq_true rfl)) ?_; intro w S'; replace S := S'; clear S') | (refine st_skipE rfl (r_storeVar (i := 4) S rfl rfl rfl rfl (of_decide_eq_true rfl) (of_decide_eq_true rfl)) ?_; intro w S'; replace S := S'; clear S')))
    have S5 : St w0 w (marks [Dk] ++ [.var bv 25 [.slice A0 L.length c], mapOb eI eB bm (bmD (L.drop 0)), .var b3 3 [.int .i64 id], .var b4 3 [.int .i64 (-1)], .var b5 155 [.map (some bm)]]) := S.perm (List.perm_append_comm (l₁ := [_, _, _, _, _]) (l₂ := [_]))
    exact leaves_marks (fun w' S' => ⟨_, res_cell rfl rfl S' (i := 3) rfl, _, rfl, S'.below, by unfold chargeI; rw [hlc]⟩) [Dk] _ S5
  | some n =>
    rw [hfd] at hE hlc
    have hE := hE.perm (List.Perm.swap _ _ _)
    refine ⟨some .ret, _, hE, fun w2 S => WD_ret (inBD_ret (thenD_ret ?_))⟩
    have S5 : St w0 w2 (marks [Dk] ++ [.var bv 25 [.slice A0 L.length c], mapOb eI eB bm (bmD (L.drop (n + 1))), .var b3 3 [.int .i64 id], .var b4 3 [.int .i64 n], .var b5 155 [.map (some bm)]]) := (show St w0 w2 [.var bv 25 [.slice A0 L.length c], mapOb eI eB bm (bmD (L.drop (n + 1))), .var b3 3 [.int .i64 id], .var b4 3 [.int .i64 n], .var b5 155 [.map (some bm)], .raw Dk (.deferred (some []))] from S).perm (List.perm_append_comm (l₁ := [_, _, _, _, _]) (l₂ := [_]))
    exact leaves_marks (fun w' S' => ⟨_, res_cell rfl rfl S' (i := 3) rfl, _, rfl, S'.below, by unfold chargeI; rw [hlc]⟩) [Dk] w2 S5
end Go.Proofs.YtijnbpnficcpmaaDoor
/- Settling a book, plainly. -/
namespace Go.Proofs.YtijnbpnficcpmaaDoor
open Go Go.Gx Go.RowKit
set_option linter.unusedVariables false
set_option linter.unusedSimpArgs false

/-! ### What is computed -/
def priceP (day due : Int) (c : GContract) : GPosting := ⟨1, day, c.Sponsor + 1, 0, due, c.ID, -1⟩
def settleB (acc cl : Int) (L : List GPosting) (c : GContract) (due day : Int) : Option (List GPosting) :=
  if 0 ≤ chargeI L c.ID ∧ (nth L (chargeI L c.ID)).Amount ≠ due then (if dispOk acc cl L (chargeI L c.ID) day due = true then some (dispL L (chargeI L c.ID) day due) else none)
  else if chargeI L c.ID < 0 ∧ 0 < due then (if postOk acc cl L (priceP day due c) = true then some (L ++ [priceP day due c]) else none)
  else some L
def setL (acc cl day : Int) (f : GContract → Int) : List GContract → List GPosting → Option (List GPosting)
  | [], L => some L
  | c :: r, L => match settleB acc cl L c (f c) day with | none => none | some L' => setL acc cl day f r L'
def strB (acc : Int) (l : List GContract) : Bool := l.any fun c => decide (acc ≤ c.Sponsor + 1)
def setI (acc cl : Int) (L : List GPosting) (l : List GContract) (sp : List GSpot) (day : Int) : Option (List GPosting) :=
  if (okI l sp && (validBk acc cl L && !strB acc l)) = true then setL acc cl day (dueC (cntS l sp)) l L else none

/-! ### Postings that stand -/
theorem nth_app {L M : List GPosting} {i : Int} (h0 : 0 ≤ i) (hi : i < L.length) : nth (L ++ M) i = nth L i := by
  have h := nth_get (l := L ++ M) (i := i) h0 (by rw [List.length_append]; omega)
  rw [List.getElem?_append_left (by omega), nth_get h0 hi] at h
  exact (Option.some.inj h).symm
theorem nth_end {L : List GPosting} {p : GPosting} {i : Int} (hi : i = L.length) : nth (L ++ [p]) i = p := by
  have h := nth_get (l := L ++ [p]) (i := i) (by omega) (by rw [List.length_append]; simp; omega)
  rw [show i.toNat = L.length by omega, List.getElem?_append_right (by omega), Nat.sub_self] at h
  exact (Option.some.inj h).symm
theorem allT_snoc {a1 : Int} {L : List GPosting} {p : GPosting} : allT a1 (L ++ [p]) = (allT a1 L && takeB a1 L p) := by
  unfold allT
  rw [List.length_append, List.length_singleton, List.range_succ, List.all_append]
  congr 1
  · have e : ∀ i ∈ List.range L.length, takeB a1 ((L ++ [p]).take i) (nth (L ++ [p]) (i : Int)) = takeB a1 (L.take i) (nth L (i : Int)) := fun i hi => by
      have := List.mem_range.1 hi
      rw [List.take_append_of_le_length (by omega), nth_app (by omega) (by omega)]
    rw [Bool.eq_iff_iff, List.all_eq_true, List.all_eq_true]
    exact ⟨fun h i hi => by rw [← e i hi]; exact h i hi, fun h i hi => by rw [e i hi]; exact h i hi⟩
  · simp only [List.all_cons, List.all_nil, Bool.and_true]
    rw [nth_end rfl, List.take_left' rfl]
theorem allT_len {a1 : Int} {L : List GPosting} (h : allT a1 L = true) : L.length ≤ 200 := by
  by_cases e : L.length = 0
  · omega
  · have := allT_at h (j := (L.length : Int) - 1) (by omega) (by omega)
    unfold takeB at this
    simp only [Bool.and_eq_true, decide_eq_true_eq, List.length_take] at this
    omega
theorem allT_rev {a1 : Int} {L : List GPosting} (h : allT a1 L = true) {j : Int} (h0 : 0 ≤ j) (hj : j < L.length) (hk : (nth L j).Kind = 3) : 0 ≤ (nth L j).Of ∧ (nth L j).Of < j := by
  have := allT_at h h0 hj
  unfold takeB revOk at this
  simp only [Bool.and_eq_true, Bool.or_eq_true, decide_eq_true_eq, List.length_take] at this
  have hf := fmP_of this.2.1
  omega
theorem mem_at {L : List GPosting} {q : GPosting} (h : q ∈ L) : ∃ j : Int, 0 ≤ j ∧ j < L.length ∧ nth L j = q := by
  obtain ⟨j, hj⟩ := List.getElem?_of_mem h
  have hlt := (List.getElem?_eq_some_iff.1 hj).1
  refine ⟨j, by omega, by omega, ?_⟩
  have h2 := nth_get (l := L) (i := (j : Int)) (by omega) (by omega)
  rw [Int.toNat_natCast, hj] at h2
  exact (Option.some.inj h2).symm
theorem bkN_far {a1 : Int} {L : List GPosting} (h : allT a1 L = true) {i : Nat} (hi : L.length ≤ i) : bkN L i = false := by
  unfold bkN
  rw [List.any_eq_false]
  intro q hq
  obtain ⟨j, h0, h1, rfl⟩ := mem_at hq
  rw [decide_eq_true_iff]
  rintro ⟨hk, ho⟩
  have := allT_rev h h0 h1 hk
  omega
def stn (L : List GPosting) (i : Nat) : Bool := decide ((nth L (i : Int)).Kind ≠ 3) && !bkN L i
theorem hit_stn {a1 : Int} {L : List GPosting} (h : allT a1 L = true) {id : Int} {n : Nat} : hitC L id n = (decide ((nth L (n : Int)).Subject = id) && stn L n) := by
  have e : ((L.drop (n + 1)).any fun q => decide (q.Kind = 3 ∧ q.Of = (n : Int))) = bkN L n := by
    cases hb : bkN L n with
    | false =>
      unfold bkN at hb
      rw [List.any_eq_false] at hb ⊢
      exact fun q hq => hb q (List.mem_of_mem_drop hq)
    | true =>
      unfold bkN at hb
      obtain ⟨q, hq, hd⟩ := List.any_eq_true.1 hb
      have hd' := of_decide_eq_true hd
      obtain ⟨j, h0, h1, rfl⟩ := mem_at hq
      have := allT_rev h h0 h1 hd'.1
      refine List.any_eq_true.2 ⟨nth L j, ?_, hd⟩
      have hg := nth_get h0 h1
      refine List.mem_of_getElem? (i := j.toNat - (n + 1)) ?_
      rw [List.getElem?_drop, show n + 1 + (j.toNat - (n + 1)) = j.toNat by omega]
      exact hg
  unfold hitC stn
  rw [e, ← Bool.and_assoc]
  congr 1
  by_cases h1 : (nth L (n : Int)).Kind = 3 <;> by_cases h2 : (nth L (n : Int)).Subject = id <;> simp [h1, h2]
theorem chg_cases {L : List GPosting} {id : Int} : ∀ n : Nat, (chg L id n = -1 ∧ ∀ i, i < n → hitC L id i = false) ∨ (∃ k, k < n ∧ chg L id n = (k : Int) ∧ hitC L id k = true ∧ ∀ i, k < i → i < n → hitC L id i = false)
  | 0 => .inl ⟨rfl, fun i h => by omega⟩
  | n + 1 => by
    unfold chg
    cases h : hitC L id n with
    | true => exact .inr ⟨n, by omega, by rw [if_pos rfl], h, fun i h1 h2 => by omega⟩
    | false =>
      rw [if_neg (by simp)]
      rcases @chg_cases L id n with ⟨h1, h2⟩ | ⟨k, hk, h1, h2, h3⟩
      · exact .inl ⟨h1, fun i hi => by by_cases e : i = n; (subst e; exact h); exact h2 i (by omega)⟩
      · exact .inr ⟨k, by omega, h1, h2, fun i h4 h5 => by by_cases e : i = n; (subst e; exact h); exact h3 i h4 (by omega)⟩
/-- What is charged to a sponsor for a contract. -/
def Ch (L : List GPosting) (id s d : Int) : Prop :=
  (d = 0 ∧ ∀ i, i < L.length → stn L i = true → (nth L (i : Int)).Subject ≠ id) ∨
  (0 < d ∧ ∃ (k : Nat) (day : Int), k < L.length ∧ stn L k = true ∧ nth L (k : Int) = ⟨1, day, s + 1, 0, d, id, -1⟩ ∧ ∀ i, i < L.length → stn L i = true → (nth L (i : Int)).Subject = id → i = k)
theorem stn_post {a1 : Int} {L : List GPosting} (h : allT a1 L = true) {p : GPosting} (hp : p.Kind ≠ 3) {i : Nat} (hi : i < L.length) : stn (L ++ [p]) i = stn L i := by
  unfold stn; rw [nth_app (by omega) (by omega), ← bkN_plain hp]
theorem stn_new {a1 : Int} {L : List GPosting} (h : allT a1 L = true) {p : GPosting} (hp : p.Kind ≠ 3) : stn (L ++ [p]) L.length = true := by
  unfold stn
  rw [nth_end rfl, ← bkN_plain hp, bkN_far h (Nat.le_refl _), decide_eq_true hp]; rfl
theorem stn_rev {L : List GPosting} {p : GPosting} (hp : p.Kind = 3) {i : Nat} (hi : i < L.length) : stn (L ++ [p]) i = (stn L i && !decide (p.Of = (i : Int))) := by
  unfold stn
  rw [nth_app (by omega) (by omega), bkN_snoc, Bool.not_or, Bool.and_assoc]
  congr 2
  by_cases e : p.Of = (i : Int) <;> simp [e, hp]
theorem stn_revN {L : List GPosting} {p : GPosting} (hp : p.Kind = 3) : stn (L ++ [p]) L.length = false := by
  unfold stn
  rw [nth_end rfl, decide_eq_false (fun h => h hp)]; rfl
theorem ch_charge {a1 : Int} {L : List GPosting} (h : allT a1 L = true) {id s d : Int} (hc : Ch L id s d) : (d = 0 ∧ chargeI L id = -1) ∨ (0 < d ∧ ∃ (k : Nat) (day : Int), k < L.length ∧ chargeI L id = (k : Int) ∧ stn L k = true ∧ nth L (k : Int) = ⟨1, day, s + 1, 0, d, id, -1⟩ ∧ ∀ i, i < L.length → stn L i = true → (nth L (i : Int)).Subject = id → i = k) := by
  have hcc := @chg_cases L id L.length
  unfold chargeI
  rcases hc with ⟨h0, hn⟩ | ⟨h0, k, day, hk, hs, hp, hu⟩
  · refine .inl ⟨h0, ?_⟩
    rcases hcc with ⟨h1, _⟩ | ⟨k, hk, h1, h2, _⟩
    · exact h1
    · rw [hit_stn h, Bool.and_eq_true, decide_eq_true_eq] at h2
      exact absurd h2.1 (hn k hk h2.2)
  · refine .inr ⟨h0, k, day, hk, ?_, hs, hp, hu⟩
    have hh : hitC L id k = true := by rw [hit_stn h, hs, hp, decide_eq_true rfl]; rfl
    rcases hcc with ⟨h1, h2⟩ | ⟨k', hk', h1, h2, h3⟩
    · rw [h2 k hk] at hh; cases hh
    · rw [hit_stn h, Bool.and_eq_true, decide_eq_true_eq] at h2
      rw [hu k' hk' h2.2 h2.1] at h1
      exact h1
theorem ch_post {a1 : Int} {L : List GPosting} (h : allT a1 L = true) {p : GPosting} (hp : p.Kind ≠ 3) {id s d : Int} (he : p.Subject ≠ id) (hc : Ch L id s d) : Ch (L ++ [p]) id s d := by
  have hlen : (L ++ [p]).length = L.length + 1 := by simp
  have key : ∀ i, i < (L ++ [p]).length → stn (L ++ [p]) i = true → (nth (L ++ [p]) (i : Int)).Subject = id → i < L.length ∧ stn L i = true ∧ (nth L (i : Int)).Subject = id := fun i hi hs hb => by
    by_cases e : i = L.length
    · subst e; rw [nth_end rfl] at hb; exact absurd hb he
    · have hi' : i < L.length := by omega
      rw [stn_post h hp hi'] at hs
      rw [nth_app (by omega) (by omega)] at hb
      exact ⟨hi', hs, hb⟩
  rcases hc with ⟨h0, hn⟩ | ⟨h0, k, day, hk, hs, hpk, hu⟩
  · exact .inl ⟨h0, fun i hi hs hb => by obtain ⟨a, b, c⟩ := key i hi hs hb; exact hn i a b c⟩
  · exact .inr ⟨h0, k, day, by omega, by rw [stn_post h hp hk]; exact hs, by rw [nth_app (by omega) (by omega)]; exact hpk, fun i hi hs hb => by obtain ⟨a, b, c⟩ := key i hi hs hb; exact hu i a b c⟩
theorem ch_new {a1 : Int} {L : List GPosting} (h : allT a1 L = true) {id s d day : Int} (hd : 0 < d) (hc : Ch L id s 0) : Ch (L ++ [⟨1, day, s + 1, 0, d, id, -1⟩]) id s d := by
  rcases hc with ⟨_, hn⟩ | ⟨h0, _⟩
  · refine .inr ⟨hd, L.length, day, by simp, stn_new h (show (1 : Int) ≠ 3 by decide), nth_end rfl, fun i hi hs hb => ?_⟩
    by_cases e : i = L.length
    · exact e
    · have hi' : i < L.length := by rw [List.length_append, List.length_singleton] at hi; omega
      rw [stn_post h (show (1 : Int) ≠ 3 by decide) hi'] at hs
      rw [nth_app (by omega) (by omega)] at hb
      exact absurd hb (hn i hi' hs)
  · omega
theorem ch_rev {a1 : Int} {L : List GPosting} (h : allT a1 L = true) {p : GPosting} (hp : p.Kind = 3) {id s d : Int} (h0 : 0 ≤ p.Of) (hof : p.Of < L.length) (he : (nth L p.Of).Subject ≠ id) (hc : Ch L id s d) : Ch (L ++ [p]) id s d := by
  have hlen : (L ++ [p]).length = L.length + 1 := by simp
  have key : ∀ i, i < (L ++ [p]).length → stn (L ++ [p]) i = true → (nth (L ++ [p]) (i : Int)).Subject = id → i < L.length ∧ stn L i = true ∧ (nth L (i : Int)).Subject = id := fun i hi hs hb => by
    by_cases e : i = L.length
    · subst e; rw [stn_revN hp] at hs; cases hs
    · have hi' : i < L.length := by omega
      rw [stn_rev hp hi', Bool.and_eq_true] at hs
      rw [nth_app (by omega) (by omega)] at hb
      exact ⟨hi', hs.1, hb⟩
  rcases hc with ⟨hd0, hn⟩ | ⟨hd0, k, day, hk, hs, hpk, hu⟩
  · exact .inl ⟨hd0, fun i hi hs hb => by obtain ⟨a, b, c⟩ := key i hi hs hb; exact hn i a b c⟩
  · refine .inr ⟨hd0, k, day, by omega, ?_, by rw [nth_app (by omega) (by omega)]; exact hpk, fun i hi hs hb => by obtain ⟨a, b, c⟩ := key i hi hs hb; exact hu i a b c⟩
    rw [stn_rev hp hk, hs, decide_eq_false (fun e => he (by rw [e, hpk]))]; rfl
theorem ch_gone {L : List GPosting} {p : GPosting} (hp : p.Kind = 3) {id s : Int} {k : Nat} (hof : p.Of = (k : Int)) (hu : ∀ i, i < L.length → stn L i = true → (nth L (i : Int)).Subject = id → i = k) : Ch (L ++ [p]) id s 0 := by
  refine .inl ⟨rfl, fun i hi hs hb => ?_⟩
  by_cases e : i = L.length
  · subst e; rw [stn_revN hp] at hs; cases hs
  · have hi' : i < L.length := by rw [List.length_append, List.length_singleton] at hi; omega
    rw [stn_rev hp hi', Bool.and_eq_true] at hs
    rw [nth_app (by omega) (by omega)] at hb
    have e2 := hu i hi' hs.1 hb
    rw [hof, e2, decide_eq_true rfl] at hs
    cases hs.2
theorem take_ok {a1 day : Int} {L : List GPosting} (hlen : L.length < 200) (hd : ∀ q ∈ L, q.Day ≤ day) {p : GPosting} (hpd : p.Day = day) (hf : fmP p a1 = true) (hr : revOk L p = true) : takeB a1 L p = true := by
  unfold takeB
  rw [hf, hr, decide_eq_true hlen]
  have : dayOk L p = true := by
    unfold dayOk
    rw [decide_eq_true_iff]
    by_cases e : L.length = 0
    · exact .inl e
    · exact .inr (by rw [hpd]; exact hd _ (nth_mem (by omega) (by omega)))
  rw [this]; rfl
theorem fm_price {day s d id a1 : Int} (h : 0 ≤ day ∧ day ≤ 359) (hs : 0 ≤ s ∧ s + 1 ≤ a1) (hd : 0 < d ∧ d ≤ 1000000000000) (hid : 0 ≤ id ∧ id ≤ 999) : fmP ⟨1, day, s + 1, 0, d, id, -1⟩ a1 = true :=
  decide_eq_true ⟨h.1, h.2, (show 0 ≤ s + 1 by omega), hs.2, Int.le_refl _, (show 0 ≤ a1 by omega), (show s + 1 ≠ 0 by omega), (show 1 ≤ d by omega), hd.2, hid.1, hid.2, .inl ⟨.inl rfl, rfl⟩⟩
theorem fm_back {day s d id a1 k : Int} (h : 0 ≤ day ∧ day ≤ 359) (hs : 0 ≤ s ∧ s + 1 ≤ a1) (hd : 0 < d ∧ d ≤ 1000000000000) (hid : 0 ≤ id ∧ id ≤ 999) (hk : 0 ≤ k ∧ k ≤ 199) : fmP ⟨3, day, 0, s + 1, d, id, k⟩ a1 = true :=
  decide_eq_true ⟨h.1, h.2, Int.le_refl _, (show 0 ≤ a1 by omega), (show 0 ≤ s + 1 by omega), hs.2, (show 0 ≠ s + 1 by omega), (show 1 ≤ d by omega), hd.2, hid.1, hid.2, .inr ⟨rfl, hk.1, hk.2⟩⟩
theorem settle_ok {acc cl a1 day due d : Int} {L : List GPosting} {c : GContract} (ha : IntKind.i64.wrap (acc - 1) = a1) (hacc : okAC acc cl = true) (hv : allT a1 L = true) (hlen : L.length + 2 ≤ 200) (hcl : 30 * cl ≤ day) (hd0 : 0 ≤ day ∧ day ≤ 359) (hday : ∀ q ∈ L, q.Day ≤ day)
    (hid : 0 ≤ c.ID ∧ c.ID ≤ 999) (hs : 0 ≤ c.Sponsor ∧ c.Sponsor + 1 ≤ a1) (hdue : 0 ≤ due ∧ due ≤ 1000000000000) (hc : Ch L c.ID c.Sponsor d) :
    ∃ E, settleB acc cl L c due day = some (L ++ E) ∧ E.length ≤ 2 ∧ (∀ q ∈ E, q.Day = day) ∧ (d = due → E = []) ∧ allT a1 (L ++ E) = true ∧ Ch (L ++ E) c.ID c.Sponsor due ∧ ∀ id s d, id ≠ c.ID → Ch L id s d → Ch (L ++ E) id s d := by
  have hnone : d = due → (∃ E, some L = some (L ++ E) ∧ E.length ≤ 2 ∧ (∀ q ∈ E, q.Day = day) ∧ (d = due → E = []) ∧ allT a1 (L ++ E) = true ∧ Ch (L ++ E) c.ID c.Sponsor due ∧ ∀ id s d, id ≠ c.ID → Ch L id s d → Ch (L ++ E) id s d) := fun e =>
    ⟨[], by rw [List.append_nil], by simp, fun q h => (by cases h), fun _ => rfl, by rw [List.append_nil]; exact hv, by rw [List.append_nil, ← e]; exact hc, fun id s d _ h => by rw [List.append_nil]; exact h⟩
  have hbk : validBk acc cl L = true := by unfold validBk; rw [ha, hv, hacc]; rfl
  unfold settleB
  rcases ch_charge hv hc with ⟨rfl, hk⟩ | ⟨hdp, k, dy, hkl, hk, hst, hpk, hu⟩
  · rw [hk, if_neg (by omega)]
    by_cases hdz : 0 < due
    · have hT : takeB a1 L (priceP day due c) = true := take_ok (by omega) hday rfl (fm_price hd0 hs ⟨hdz, hdue.2⟩ hid) rfl
      have hp : postOk acc cl L (priceP day due c) = true := by unfold postOk postB; rw [ha, hT, hbk, decide_eq_true (show 30 * cl ≤ (priceP day due c).Day from hcl)]; rfl
      rw [if_pos ⟨by omega, hdz⟩, if_pos hp]
      refine ⟨[priceP day due c], rfl, by simp, fun q h => (by cases List.mem_singleton.1 h; rfl), fun e => by omega, by rw [allT_snoc, hv, hT]; rfl, ch_new hv hdz hc, fun id s d hne h => ch_post hv (show (1 : Int) ≠ 3 by decide) (fun e => hne e.symm) h⟩
    · rw [if_neg (by omega)]
      exact hnone (by omega)
  · rw [hk, hpk]
    by_cases e : d = due
    · rw [if_neg (by simp only; omega), if_neg (by omega)]
      exact hnone e
    · rw [if_pos ⟨by omega, by simpa using e⟩]
      have hb : backP L (k : Int) day = ⟨3, day, 0, c.Sponsor + 1, d, c.ID, k⟩ := by unfold backP; rw [hpk]
      have hn : newP L (k : Int) day due = ⟨1, day, c.Sponsor + 1, 0, due, c.ID, -1⟩ := by unfold newP; rw [hpk]
      have hdm : d ≤ 1000000000000 := by
        have h1 := allT_at hv (j := (k : Int)) (by omega) (by omega)
        unfold takeB fmP at h1
        simp only [Bool.and_eq_true, decide_eq_true_eq, hpk] at h1
        omega
      have hbn : bkN L k = false := by unfold stn at hst; simp only [Bool.and_eq_true, Bool.not_eq_true'] at hst; exact hst.2
      have hT1 : takeB a1 L (backP L (k : Int) day) = true := by
        rw [hb]
        have h1 : bkP ⟨3, day, 0, c.Sponsor + 1, d, c.ID, (k : Int)⟩ (nth L (k : Int)) = true := by rw [hpk]; exact decide_eq_true ⟨(show (1 : Int) ≠ 3 by decide), rfl, rfl, rfl, rfl⟩
        refine take_ok (by omega) hday rfl (fm_back hd0 hs ⟨hdp, hdm⟩ hid (by omega)) ?_
        unfold revOk
        simp only [Int.toNat_natCast]
        rw [h1, hbn, decide_eq_true (show (k : Int) < (L.length : Int) by omega)]; simp
      have hP1 : postB a1 cl L (backP L (k : Int) day) = true := by unfold postB; rw [hT1, decide_eq_true (show 30 * cl ≤ (backP L (k : Int) day).Day from hcl)]; rfl
      have hv1 : allT a1 (L ++ [backP L (k : Int) day]) = true := by rw [allT_snoc, hv, hT1]; rfl
      have hgone : Ch (L ++ [backP L (k : Int) day]) c.ID c.Sponsor 0 := ch_gone rfl rfl hu
      have hoth : ∀ id s d, id ≠ c.ID → Ch L id s d → Ch (L ++ [backP L (k : Int) day]) id s d := fun id s d hne h => ch_rev hv rfl (by show (0 : Int) ≤ (k : Int); omega) (by show (k : Int) < _; omega) (by show (nth L (k : Int)).Subject ≠ id; rw [hpk]; exact fun e => hne e.symm) h
      have hA : argD L (k : Int) due = true := decide_eq_true ⟨by omega, by omega, hdue⟩
      by_cases hdz : 0 < due
      · have hday1 : ∀ q ∈ L ++ [backP L (k : Int) day], q.Day ≤ day := fun q hq => by
          rcases List.mem_append.1 hq with h | h
          · exact hday q h
          · cases List.mem_singleton.1 h; exact Int.le_refl _
        have hT2 : takeB a1 (L ++ [backP L (k : Int) day]) (newP L (k : Int) day due) = true := by
          rw [hn]
          exact take_ok (by simp; omega) hday1 rfl (fm_price hd0 hs ⟨hdz, hdue.2⟩ hid) rfl
        have hP2 : postB a1 cl (L ++ [backP L (k : Int) day]) (newP L (k : Int) day due) = true := by unfold postB; rw [hT2, decide_eq_true (show 30 * cl ≤ (newP L (k : Int) day due).Day from hcl)]; rfl
        have hD : dispOk acc cl L (k : Int) day due = true := by unfold dispOk; rw [ha, hbk, hA, hP1, hP2]; simp
        rw [if_pos hD]
        unfold dispL
        rw [if_pos hdz]
        refine ⟨[backP L (k : Int) day, newP L (k : Int) day due], by simp, by simp, fun q h => ?_, fun h => absurd h e, ?_, ?_, fun id s d hne h => ?_⟩
        · rcases List.mem_cons.1 h with rfl | h
          · rfl
          · cases List.mem_singleton.1 h; rfl
        · rw [List.append_cons, allT_snoc, hv1, hT2]; rfl
        · rw [List.append_cons, hn]; exact ch_new hv1 hdz hgone
        · rw [List.append_cons]; exact ch_post hv1 (by rw [hn]; show (1 : Int) ≠ 3; decide) (by rw [hn]; exact fun e => hne e.symm) (hoth id s d hne h)
      · have hD : dispOk acc cl L (k : Int) day due = true := by unfold dispOk; rw [ha, hbk, hA, hP1, decide_eq_true (show due ≤ 0 by omega)]; simp
        rw [if_pos hD]
        unfold dispL
        rw [if_neg hdz]
        obtain rfl : due = 0 := by omega
        exact ⟨[backP L (k : Int) day], rfl, by simp, fun q h => (by cases List.mem_singleton.1 h; rfl), fun h => absurd h e, hv1, hgone, hoth⟩
theorem setL_ok {acc cl a1 day : Int} {f g : GContract → Int} (ha : IntKind.i64.wrap (acc - 1) = a1) (hacc : okAC acc cl = true) (hcl : 30 * cl ≤ day) (hd0 : 0 ≤ day ∧ day ≤ 359) :
    ∀ (l : List GContract) (L : List GPosting), allT a1 L = true → L.length + 2 * l.length ≤ 200 → (∀ q ∈ L, q.Day ≤ day) → (l.Pairwise fun a b => a.ID ≠ b.ID) → (∀ c ∈ l, (0 ≤ c.ID ∧ c.ID ≤ 999) ∧ (0 ≤ c.Sponsor ∧ c.Sponsor + 1 ≤ a1) ∧ (0 ≤ f c ∧ f c ≤ 1000000000000)) → (∀ c ∈ l, Ch L c.ID c.Sponsor (g c)) →
      ∃ E, setL acc cl day f l L = some (L ++ E) ∧ E.length ≤ 2 * l.length ∧ (∀ q ∈ E, q.Day = day) ∧ ((∀ c ∈ l, g c = f c) → E = []) ∧ allT a1 (L ++ E) = true ∧ (∀ c ∈ l, Ch (L ++ E) c.ID c.Sponsor (f c)) ∧ ∀ id s d, (∀ c ∈ l, id ≠ c.ID) → Ch L id s d → Ch (L ++ E) id s d
  | [], L, hv, hlen, hday, _, _, hc => ⟨[], by rw [List.append_nil]; rfl, by simp, fun q h => (by cases h), fun _ => rfl, by rw [List.append_nil]; exact hv, fun c h => (by cases h), fun id s d _ h => by rw [List.append_nil]; exact h⟩
  | c :: r, L, hv, hlen, hday, hp, hb, hc => by
    rw [List.pairwise_cons] at hp
    rw [List.length_cons] at hlen
    obtain ⟨b1, b2, b3⟩ := hb c (List.mem_cons_self ..)
    obtain ⟨E, e1, e2, e3, e4, e5, e6, e7⟩ := settle_ok ha hacc hv (by omega) hcl hd0 hday b1 b2 b3 (hc c (List.mem_cons_self ..))
    have hday1 : ∀ q ∈ L ++ E, q.Day ≤ day := fun q hq => by
      rcases List.mem_append.1 hq with h | h
      · exact hday q h
      · rw [e3 q h]; exact Int.le_refl _
    obtain ⟨F, f1, f2, f3, f4, f5, f6, f7⟩ := setL_ok ha hacc hcl hd0 r (L ++ E) e5 (by rw [List.length_append]; omega) hday1 hp.2 (fun x hx => hb x (List.mem_cons_of_mem _ hx)) (fun x hx => e7 _ _ _ (hp.1 x hx).symm (hc x (List.mem_cons_of_mem _ hx)))
    refine ⟨E ++ F, ?_, by rw [List.length_append, List.length_cons]; omega, fun q hq => ?_, fun h => ?_, by rw [← List.append_assoc]; exact f5, fun x hx => ?_, fun id s d hne h => ?_⟩
    · rw [setL, e1]; simp only; rw [f1, List.append_assoc]
    · rcases List.mem_append.1 hq with h | h
      · exact e3 q h
      · exact f3 q h
    · rw [e4 (h c (List.mem_cons_self ..)), f4 fun x hx => h x (List.mem_cons_of_mem _ hx)]; rfl
    · rw [← List.append_assoc]
      rcases List.mem_cons.1 hx with rfl | hx
      · exact f7 _ _ _ (fun y hy => hp.1 y hy) e6
      · exact f6 x hx
    · rw [← List.append_assoc]
      exact f7 id s d (fun x hx => hne x (List.mem_cons_of_mem _ hx)) (e7 id s d (hne c (List.mem_cons_self ..)) h)
/-- In a closed month nothing is booked. -/
theorem settle_closed {acc cl day due : Int} {L L' : List GPosting} {c : GContract} (hd : day < 30 * cl) (h : settleB acc cl L c due day = some L') : L' = L := by
  unfold settleB at h
  have h1 : ∀ (a1 : Int) (M : List GPosting) (p : GPosting), p.Day = day → postB a1 cl M p = false := fun a1 M p hp => by unfold postB; rw [hp, decide_eq_false (by omega)]; rfl
  by_cases c1 : 0 ≤ chargeI L c.ID ∧ (nth L (chargeI L c.ID)).Amount ≠ due
  · rw [if_pos c1, if_neg (by unfold dispOk; rw [h1 _ _ (backP L (chargeI L c.ID) day) rfl]; simp)] at h; cases h
  · rw [if_neg c1] at h
    by_cases c2 : chargeI L c.ID < 0 ∧ 0 < due
    · rw [if_pos c2, if_neg (by unfold postOk; rw [h1 _ _ (priceP day due c) rfl]; simp)] at h; cases h
    · rw [if_neg c2] at h; exact (Option.some.inj h).symm
theorem setL_closed {acc cl day : Int} {f : GContract → Int} (hd : day < 30 * cl) : ∀ {l : List GContract} {L L' : List GPosting}, setL acc cl day f l L = some L' → L' = L
  | [], L, L', h => (Option.some.inj h).symm
  | c :: r, L, L', h => by
    rw [setL] at h
    cases hs : settleB acc cl L c (f c) day with
    | none => rw [hs] at h; cases h
    | some M => rw [hs] at h; simp only at h; rw [setL_closed hd h, settle_closed hd hs]
/-! ### What is owed -/
end Go.Proofs.YtijnbpnficcpmaaDoor
/- The settling of one contract. -/
namespace Go.Proofs.YtijnbpnficcpmaaDoor
open Go Go.Gx Go.RowKit
set_option linter.unusedVariables false
set_option linter.unusedSimpArgs false

theorem r_pickF {P : Program} {ρ : Operand → Value} {w : World} {d : Option Tmp} {ty : TypeId} {pos : String} {af : Array Edge} {g : Option (Nat × Bool)} {c a b : Operand} (hc : ρ c = .bool false) : Go.Gx.Runs P ρ ⟨d, .pick c a b, ty, pos, af, g⟩ w (.ok (.value (ρ b)) w) := ⟨by simp [execOp, hc, asBool, pure, bind, Sem.bind]⟩
theorem kq_val {P : Program} {n : Nat} {ops : Array Oper} {Q : Post} {J : World → Prop} {o : Oper} {K : (Nat → Value) → World → Prop} {σ : Nat → Value} {w : World} {v : Value} (hw : wantS o ops n σ = true) (hrun : Go.Gx.Runs P (opv (cut n σ)) o w (.ok (.value v) w)) (hJ : J w) (k : K (updO σ o.dst v) w) : kq P n ops Q J o K σ w :=
  kq_valE (R := fun v' w' => v' = v ∧ w' = w) hw ⟨v, w, hrun, rfl, rfl⟩ (by rintro _ _ ⟨rfl, rfl⟩; exact ⟨hJ, k⟩)
theorem chargeI_rng {L : List GPosting} {id : Int} : -1 ≤ chargeI L id ∧ chargeI L id < L.length := by
  unfold chargeI
  rcases @chg_cases L id L.length with ⟨h, _⟩ | ⟨k, hk, h, _⟩ <;> rw [h] <;> omega
abbrev ledB (bl : Nat) (acc : Int) (v : Value) (cl : Int) (x : Bool) : Ob := .var bl 103 (blC acc v cl x)
theorem st_fin {w0 w2 : World} {a b c x : Ob} {ex : List Ob} (S : St w0 w2 (a :: b :: c :: (ex ++ [x]))) : St w0 w2 (a :: x :: ex) :=
  (S.perm ((List.perm_middle (a := a) (l₁ := [b, c]) (l₂ := ex ++ [x])).symm.trans (List.Perm.cons b (List.Perm.cons c (List.Perm.cons a (List.perm_append_singleton x ex)))))).tail.tail
def SetR (w0 : World) (bl : Nat) (acc cl : Int) (L : List GPosting) (c : GContract) (due day : Int) (ex : List Ob) (w' : World) : Prop :=
  match settleB acc cl L c due day with
  | some L' => ∃ v', St w0 w' (ledB bl acc v' cl false :: rowP v' L' :: ex)
  | none => St w0 w' (ledB bl 0 (.slice none 0 0) 0 true :: ex)
set_option maxRecDepth 20000 in
set_option maxHeartbeats 1000000 in
theorem settle_run {bl : Nat} {acc cl due day : Int} {L : List GPosting} {c : GContract} {v : Value} {ex : List Ob} {w0 w : World} (S : St w0 w (ledB bl acc v cl false :: rowP v L :: ex)) (hl : L.length ≤ 1000000000) (hs : 0 ≤ c.Sponsor ∧ c.Sponsor ≤ 1000000) :
    CallsW Tryd.prog 57 #[.pointer (some ⟨bl, 0, none⟩), .agg c.enc.toArray, .int .i64 due, .int .i64 day] w (fun _ w' => SetR w0 bl acc cl L c due day ex w') := by
  obtain ⟨A, c0, hz⟩ := (S.rdRow (D := fGPosting) (i := 1) rfl).len; subst hz
  obtain ⟨k, hk⟩ : ∃ k, chargeI L c.ID = k := ⟨_, rfl⟩
  have hkr := @chargeI_rng L c.ID
  rw [hk] at hkr
  refine CallsW.mk ?_
  refine calls_enter Tryd.func57 rfl (by intro _ h; first | exact nomatch h.1 | (obtain ⟨_, h, _⟩ := h; exact nomatch h)) Tryd.ntmps57 rfl ?_
  repeat' (first | refine WP_seq ?_ | refine WP_region ?_ | refine wl_nil ?_ | refine then_normal ?_ | (refine g_move ?_; refine st_move rfl ?_) | (refine g_assign ?_; refine st_assign rfl ?_) | (refine g_nilCheck ?_; refine st_val rfl (r_nilCheck rfl) ?_) | (refine g_fieldAddr ?_; refine st_val rfl (r_fieldAddrL rfl) ?_) | (refine g_load ?_; first | refine st_val rfl (r_loadVar (i := 1) S rfl rfl rfl) ?_ | refine st_val rfl (r_loadVarA (i := 1) S rfl rfl rfl rfl) ?_) | (refine g_box ?_; refine st_valE rfl (r_box S rfl) ?_; rintro _ w ⟨b, rfl, -, S'⟩; replace S := S'.front; clear S') | (refine g_alloc ?_; refine st_valE rfl (r_alloc S) ?_; rintro _ w ⟨b, rfl, -, S'⟩; replace S := S'.front; clear S') | (refine g_store ?_; first | (refine st_skipE rfl (r_storeVar (i := 0) S rfl rfl rfl rfl (of_decide_eq_true rfl) (of_decide_eq_true rfl)) ?_; intro w S'; replace S := S'; clear S') | (refine st_skipE rfl (r_storeVar (i := 1) S rfl rfl rfl rfl (of_decide_eq_true rfl) (of_decide_eq_true rfl)) ?_; intro w S'; replace S := S'; clear S') | (refine st_skipE rfl (r_storeVar (i := 2) S rfl rfl rfl rfl (of_decide_eq_true rfl) (of_decide_eq_true rfl)) ?_; intro w S'; replace S := S'; clear S') | (refine st_skipE rfl (r_storeVar (i := 3) S rfl rfl rfl rfl (of_decide_eq_true rfl) (of_decide_eq_true rfl)) ?_; intro w S'; replace S := S'; clear S')))
  refine st_callR rfl (r_call2 rfl rfl rfl) (charge_run (S.var (i := 2) rfl) (S.rdRow (D := fGPosting) (i := 3) rfl) hl) ?_
  rintro _ w hb rfl
  replace S := S.grow hb
  clear hb
  rw [hk]
  rename_i b5 _ _
  obtain ⟨b8, rfl⟩ : ∃ x, x = b := ⟨_, rfl⟩
  refine st_assign rfl ?_
  refine wl_nil ?_
  refine then_normal ?_
  replace S : St w0 w (.var b8 27 (bkV acc (.slice A L.length c0) cl) :: .var b5 70 c.enc :: ledB bl acc (.slice A L.length c0) cl false :: rowP (.slice A L.length c0) L :: ex) := S
  refine WP_then_cut (fun σ w1 => ∃ (e acc' cl' : Int) (A' : Option Addr) (n' c' : Nat) (M : List Ob), Has σ [(0, .pointer (some ⟨bl, 0, none⟩)), (8, .pointer (some ⟨b8, 0, none⟩)), (9, .int .i64 e)] ∧ St w0 w1 (.var b8 27 (bkV acc' (.slice A' n' c') cl') :: ledB bl acc (.slice A L.length c0) cl false :: M) ∧ ∀ w2, St w0 w2 (.var b8 27 (bkV acc' (.slice A' n' c') cl') :: ledB bl acc' (.slice A' n' c') cl' (!decide (e = 0)) :: M) → SetR w0 bl acc cl L c due day ex w2) ?_ ?_
  · have hnil : settleB acc cl L c due day = some L → ∀ w2, St w0 w2 (.var b8 27 (bkV acc (.slice A L.length c0) cl) :: ledB bl acc (.slice A L.length c0) cl (!decide ((0 : Int) = 0)) :: .var b5 70 c.enc :: rowP (.slice A L.length c0) L :: ex) → SetR w0 bl acc cl L c due day ex w2 := fun he w2 S2 => by
      unfold SetR; rw [he]; exact ⟨_, (S2.tail.perm (List.Perm.swap _ _ _)).tail⟩
    have hbad : settleB acc cl L c due day = none → ∀ w2, St w0 w2 (.var b8 27 (bkV 0 (.slice none 0 0) 0) :: ledB bl 0 (.slice none 0 0) 0 (!decide ((240 : Int) = 0)) :: .var b5 70 c.enc :: rowP (.slice A L.length c0) L :: ex) → SetR w0 bl acc cl L c due day ex w2 := fun he w2 S2 => by
      unfold SetR; rw [he]; exact S2.tail.sub (.cons_cons _ (.cons _ (.cons _ (List.Sublist.refl _))))
    have hgood : ∀ (L' : List GPosting) (v' : Value), settleB acc cl L c due day = some L' → ∀ w2, St w0 w2 (.var b8 27 (bkV acc v' cl) :: ledB bl acc v' cl (!decide ((0 : Int) = 0)) :: .var b5 70 c.enc :: rowP (.slice A L.length c0) L :: (ex ++ [rowP v' L'])) → SetR w0 bl acc cl L c due day ex w2 := fun L' v' he w2 S2 => by
      unfold SetR; rw [he]; exact ⟨_, st_fin S2.tail⟩
    by_cases h1 : 0 ≤ k
    · by_cases h2 : (nth L k).Amount = due
      · have he : settleB acc cl L c due day = some L := by unfold settleB; rw [hk, if_neg (fun h => h.2 h2), if_neg (fun h => by omega)]
        repeat' (first | refine WP_seq ?_ | refine WP_region ?_ | refine wl_nil ?_ | refine then_normal ?_ | refine inB_normal ?_ | refine WP_skip ?_ | refine WP_block ?_ | refine WP_condF rfl ?_ | (refine g_guard ?_; refine st_off rfl ?_) | (refine g_move ?_; refine st_move rfl ?_) | (refine g_assign ?_; refine st_assign rfl ?_) | (refine g_pick ?_; first | refine st_pickT rfl rfl ?_ | refine st_pickF rfl rfl ?_) | (refine g_b_neq ?_; refine st_val rfl (r_neq rfl rfl) ?_) | (refine g_b_lss ?_; refine st_val rfl (r_lss rfl rfl) ?_) | (refine g_b_geq ?_; refine st_val rfl (r_geq rfl rfl) ?_) | (refine g_nilCheck ?_; refine st_val rfl (r_nilCheck rfl) ?_) | (refine g_fieldAddr ?_; first | refine st_val rfl (r_fieldAddrL rfl) ?_ | refine st_val rfl (r_fieldAddr rfl) ?_) | (refine g_indexAddr ?_; (refine st_val rfl (r_indexAddr (S.rdRow (D := fGPosting) (i := 3) rfl) rfl rfl ?_ ?_) ?_; (first | omega | (simp <;> omega)); (first | omega | (simp <;> omega)))) | (refine g_load ?_; first | (refine st_val rfl (r_loadElemF (S.rdRow (D := fGPosting) (i := 3) rfl) rfl ?_ ?_ rfl) ?_; (first | omega | (simp <;> omega)); (first | omega | (simp <;> omega))) | refine st_val rfl (r_loadVar (i := 2) S rfl rfl rfl) ?_) | (refine wl_split rfl rfl (fun h => ?_) (fun h => ?_) <;> (fail_if_success (have hh : true = true := h)) <;> (fail_if_success (have hh : false = false := h)) <;> (try simp only [decide_eq_true_eq, decide_eq_false_iff_not, Bool.not_eq_true', Bool.not_eq_false', Int.not_lt, Int.not_le] at h) <;> (try (exfalso; omega))) | (refine WP_cond rfl (fun h => ?_) (fun h => ?_) <;> (fail_if_success (have hh : true = true := h)) <;> (fail_if_success (have hh : false = false := h)) <;> (try simp only [decide_eq_true_eq, decide_eq_false_iff_not, Bool.not_eq_true', Bool.not_eq_false', Int.not_lt, Int.not_le] at h) <;> (try (exfalso; omega))))
        exact ⟨0, acc, cl, _, _, _, _, ⟨rfl, rfl, rfl, trivial⟩, (S.perm (List.Perm.cons _ (List.Perm.swap _ _ _))), hnil he⟩
      · have he : settleB acc cl L c due day = if dispOk acc cl L k day due = true then some (dispL L k day due) else none := by unfold settleB; rw [hk, if_pos ⟨h1, h2⟩]
        repeat' (first | refine WP_seq ?_ | refine WP_region ?_ | refine wl_nil ?_ | refine then_normal ?_ | refine WP_block ?_ | (refine g_move ?_; refine st_move rfl ?_) | (refine g_assign ?_; refine st_assign rfl ?_) | (refine g_pick ?_; refine st_pickT rfl rfl ?_) | (refine g_b_neq ?_; refine st_val rfl (r_neq rfl rfl) ?_) | (refine g_b_geq ?_; refine st_val rfl (r_geq rfl rfl) ?_) | (refine g_nilCheck ?_; refine st_val rfl (r_nilCheck rfl) ?_) | (refine g_fieldAddr ?_; first | refine st_val rfl (r_fieldAddrL rfl) ?_ | refine st_val rfl (r_fieldAddr rfl) ?_) | (refine g_indexAddr ?_; (refine st_val rfl (r_indexAddr (S.rdRow (D := fGPosting) (i := 3) rfl) rfl rfl ?_ ?_) ?_; (first | omega | (simp <;> omega)); (first | omega | (simp <;> omega)))) | (refine g_load ?_; first | (refine st_val rfl (r_loadElemF (S.rdRow (D := fGPosting) (i := 3) rfl) rfl ?_ ?_ rfl) ?_; (first | omega | (simp <;> omega)); (first | omega | (simp <;> omega))) | refine st_val rfl (r_loadVar (i := 2) S rfl rfl rfl) ?_ | refine st_val rfl (r_loadVarA (i := 2) S rfl rfl rfl rfl) ?_) | (refine wl_split rfl rfl (fun h => ?_) (fun h => ?_) <;> (fail_if_success (have hh : true = true := h)) <;> (fail_if_success (have hh : false = false := h)) <;> (try simp only [decide_eq_true_eq, decide_eq_false_iff_not, Bool.not_eq_true', Bool.not_eq_false', Int.not_lt, Int.not_le] at h) <;> (try (exfalso; omega))) | (refine WP_cond rfl (fun h => ?_) (fun h => ?_) <;> (fail_if_success (have hh : true = true := h)) <;> (fail_if_success (have hh : false = false := h)) <;> (try simp only [decide_eq_true_eq, decide_eq_false_iff_not, Bool.not_eq_true', Bool.not_eq_false', Int.not_lt, Int.not_le] at h) <;> (try (exfalso; omega))))
        refine st_callR rfl (r_call4 rfl rfl rfl rfl rfl) (disp_run (acc := acc) (cl := cl) (i := k) (day := day) (amount := due) (S.rdRow (D := fGPosting) (i := 3) rfl) hl) ?_
        rintro r w hb hR
        unfold DispR at hR
        cases hD : dispOk acc cl L k day due with
        | false =>
          rw [hD, if_neg (by simp)] at hR he
          subst hR
          replace S := S.grow hb; clear hb
          repeat' (first | (refine g_move ?_; refine st_move rfl ?_) | (refine g_extract ?_; refine st_val rfl (r_extract rfl rfl) ?_))
          refine st_skipE rfl (r_storeVar (i := 0) S rfl rfl rfl rfl (of_decide_eq_true rfl) (of_decide_eq_true rfl)) ?_
          intro w S'; replace S := S'; clear S'
          repeat' (first | refine wl_nil ?_ | refine then_normal ?_ | refine inB_normal ?_ | (refine g_assign ?_; refine st_assign rfl ?_))
          exact ⟨240, 0, 0, _, _, _, _, ⟨rfl, rfl, rfl, trivial⟩, (S.perm (List.Perm.cons _ (List.Perm.swap _ _ _))), hbad he⟩
        | true =>
          rw [hD, if_pos rfl] at hR he
          obtain ⟨v2, rfl, S'⟩ := hR
          obtain ⟨A2, c2, hz⟩ := (S'.rdRow (D := fGPosting) (i := 0) rfl).len; subst hz
          replace S := S.join S'
          clear S' hb
          repeat' (first | refine wl_nil ?_ | refine then_normal ?_ | refine inB_normal ?_ | (refine g_move ?_; refine st_move rfl ?_) | (refine g_assign ?_; refine st_assign rfl ?_) | (refine g_extract ?_; refine st_val rfl (r_extract rfl rfl) ?_) | (refine g_store ?_; (refine st_skipE rfl (r_storeVar (i := 0) S rfl rfl rfl rfl (of_decide_eq_true rfl) (of_decide_eq_true rfl)) ?_; intro w S'; replace S := S'; clear S')))
          exact ⟨0, acc, cl, _, _, _, _, ⟨rfl, rfl, rfl, trivial⟩, (S.perm (List.Perm.cons _ (List.Perm.swap _ _ _))), hgood _ _ he⟩
    · by_cases h2 : 0 < due
      · have he : settleB acc cl L c due day = if postOk acc cl L (priceP day due c) = true then some (L ++ [priceP day due c]) else none := by unfold settleB; rw [hk, if_neg (fun h => h1 h.1), if_pos ⟨by omega, h2⟩]
        repeat' (first | refine WP_seq ?_ | refine WP_region ?_ | refine wl_nil ?_ | refine then_normal ?_ | refine WP_block ?_ | refine WP_condF rfl ?_ | (refine g_guard ?_; refine st_off rfl ?_) | (refine g_move ?_; refine st_move rfl ?_) | (refine g_assign ?_; refine st_assign rfl ?_) | (refine g_pick ?_; first | refine st_pickT rfl rfl ?_ | refine st_pickF rfl rfl ?_) | (refine g_b_lss ?_; refine st_val rfl (r_lss rfl rfl) ?_) | (refine g_b_gtr ?_; refine st_val rfl (r_gtr rfl rfl) ?_) | (refine g_b_geq ?_; refine st_val rfl (r_geq rfl rfl) ?_) | (refine wl_split rfl rfl (fun h => ?_) (fun h => ?_) <;> (fail_if_success (have hh : true = true := h)) <;> (fail_if_success (have hh : false = false := h)) <;> (try simp only [decide_eq_true_eq, decide_eq_false_iff_not, Bool.not_eq_true', Bool.not_eq_false', Int.not_lt, Int.not_le] at h) <;> (try (exfalso; omega))) | (refine WP_cond rfl (fun h => ?_) (fun h => ?_) <;> (fail_if_success (have hh : true = true := h)) <;> (fail_if_success (have hh : false = false := h)) <;> (try simp only [decide_eq_true_eq, decide_eq_false_iff_not, Bool.not_eq_true', Bool.not_eq_false', Int.not_lt, Int.not_le] at h) <;> (try (exfalso; omega))))
        have hsp : IntKind.i64.wrap (c.Sponsor + 1) = c.Sponsor + 1 := wrap_in (by omega) (by omega)
        refine WP_drawK (fun w' => St w0 w' [.var b5 70 c.enc, ledB bl acc (.slice A L.length c0) cl false]) [0, 1, 2, 3, 4, 5, 6, 7, 8, 9, 10, 11] 12 [13, 14, 15, 16] [17, 18] [] _ rfl (by kernel_rfl) (by decide) (by decide +kernel) (fun w' hb => (S.grow hb).sub (.cons _ (.cons_cons _ (.cons_cons _ (List.nil_sublist _))))) ?_
        intro w' hb; replace S := S.grow hb; clear hb
        repeat' (first | refine jq_nil ?_ | (refine gj_move ?_; refine jq_val rfl (fun w' hJ => ⟨rfl⟩) ?_) | (refine gj_assign ?_; refine jq_val rfl (fun w' hJ => ⟨rfl⟩) ?_) | (refine gj_b_add ?_; (refine jq_val rfl (fun w' hJ => r_addN rfl rfl ?_ ?_) ?_; (first | omega | (simp <;> omega)); (first | omega | (simp <;> omega)))) | (refine gj_build ?_; refine jq_val rfl (fun w' hJ => bd84_0_1_2_4_5_6 rfl rfl rfl rfl rfl rfl) ?_) | (refine gj_nilCheck ?_; refine jq_val rfl (fun w' hJ => r_nilCheck rfl) ?_) | (refine gj_fieldAddr ?_; refine jq_val rfl (fun w' hJ => r_fieldAddrL rfl) ?_) | (refine gj_load ?_; first | refine jq_val rfl (fun w' hJ => r_loadVar (i := 0) hJ rfl rfl rfl) ?_ | refine jq_val rfl (fun w' hJ => r_loadVarA (i := 1) hJ rfl rfl rfl rfl) ?_))
        refine kq_callR rfl (r_call2 rfl rfl rfl) (postB_run (acc := acc) (cl := cl) (p := priceP day due c) (S.rdRow (D := fGPosting) (i := 3) rfl) hl) ?_
        rintro r w hb hR
        unfold PostBR at hR
        cases hD : postOk acc cl L (priceP day due c) with
        | false =>
          rw [hD, if_neg (by simp)] at hR he
          subst hR
          replace S := S.grow hb; clear hb
          refine ⟨S.sub (.cons _ (.cons_cons _ (.cons_cons _ (List.nil_sublist _)))), ?_⟩
          repeat' (first | refine jq_nil ?_ | (refine gj_move ?_; refine jq_val rfl (fun w' hJ => ⟨rfl⟩) ?_) | (refine gj_assign ?_; refine jq_val rfl (fun w' hJ => ⟨rfl⟩) ?_) | (refine gj_extract ?_; refine jq_val rfl (fun w' hJ => r_extract rfl rfl) ?_))
          refine wj_skipE rfl (r_storeVar (i := 0) S rfl rfl rfl rfl (of_decide_eq_true rfl) (of_decide_eq_true rfl)) ?_
          intro w S'; refine ⟨S'.sub (.cons _ (.cons_cons _ (.cons_cons _ (List.nil_sublist _)))), ?_⟩; replace S := S'; clear S'
          refine wj_val rfl ⟨rfl⟩ (S.sub (.cons _ (.cons_cons _ (.cons_cons _ (List.nil_sublist _))))) ?_
          refine wj_nil ?_
          repeat' (first | refine wl_nil ?_ | refine then_normal ?_ | refine inB_normal ?_)
          exact ⟨240, 0, 0, _, _, _, _, ⟨rfl, rfl, rfl, trivial⟩, (S.perm (List.Perm.cons _ (List.Perm.swap _ _ _))), hbad he⟩
        | true =>
          rw [hD, if_pos rfl] at hR he
          obtain ⟨v2, rfl, S'⟩ := hR
          obtain ⟨A2, c2, hz⟩ := (S'.rdRow (D := fGPosting) (i := 0) rfl).len; subst hz
          replace S := S.join S'
          clear S' hb
          refine ⟨S.sub (.cons _ (.cons_cons _ (.cons_cons _ (List.nil_sublist _)))), ?_⟩
          repeat' (first | refine jq_nil ?_ | (refine gj_move ?_; refine jq_val rfl (fun w' hJ => ⟨rfl⟩) ?_) | (refine gj_assign ?_; refine jq_val rfl (fun w' hJ => ⟨rfl⟩) ?_) | (refine gj_extract ?_; refine jq_val rfl (fun w' hJ => r_extract rfl rfl) ?_))
          refine wj_skipE rfl (r_storeVar (i := 0) S rfl rfl rfl rfl (of_decide_eq_true rfl) (of_decide_eq_true rfl)) ?_
          intro w S'; refine ⟨S'.sub (.cons _ (.cons_cons _ (.cons_cons _ (List.nil_sublist _)))), ?_⟩; replace S := S'; clear S'
          refine wj_val rfl ⟨rfl⟩ (S.sub (.cons _ (.cons_cons _ (.cons_cons _ (List.nil_sublist _))))) ?_
          refine wj_nil ?_
          repeat' (first | refine wl_nil ?_ | refine then_normal ?_ | refine inB_normal ?_)
          exact ⟨0, acc, cl, _, _, _, _, ⟨rfl, rfl, rfl, trivial⟩, (S.perm (List.Perm.cons _ (List.Perm.swap _ _ _))), hgood _ _ he⟩
      · have he : settleB acc cl L c due day = some L := by unfold settleB; rw [hk, if_neg (fun h => h1 h.1), if_neg (fun h => h2 h.2)]
        repeat' (first | refine WP_seq ?_ | refine WP_region ?_ | refine wl_nil ?_ | refine then_normal ?_ | refine inB_normal ?_ | refine WP_skip ?_ | refine WP_block ?_ | refine WP_condF rfl ?_ | (refine g_guard ?_; refine st_off rfl ?_) | (refine g_move ?_; refine st_move rfl ?_) | (refine g_assign ?_; refine st_assign rfl ?_) | (refine g_pick ?_; first | refine st_pickT rfl rfl ?_ | refine st_pickF rfl rfl ?_) | (refine g_b_lss ?_; refine st_val rfl (r_lss rfl rfl) ?_) | (refine g_b_gtr ?_; refine st_val rfl (r_gtr rfl rfl) ?_) | (refine g_b_geq ?_; refine st_val rfl (r_geq rfl rfl) ?_) | (refine wl_split rfl rfl (fun h => ?_) (fun h => ?_) <;> (fail_if_success (have hh : true = true := h)) <;> (fail_if_success (have hh : false = false := h)) <;> (try simp only [decide_eq_true_eq, decide_eq_false_iff_not, Bool.not_eq_true', Bool.not_eq_false', Int.not_lt, Int.not_le] at h) <;> (try (exfalso; omega))) | (refine WP_cond rfl (fun h => ?_) (fun h => ?_) <;> (fail_if_success (have hh : true = true := h)) <;> (fail_if_success (have hh : false = false := h)) <;> (try simp only [decide_eq_true_eq, decide_eq_false_iff_not, Bool.not_eq_true', Bool.not_eq_false', Int.not_lt, Int.not_le] at h) <;> (try (exfalso; omega))))
        exact ⟨0, acc, cl, _, _, _, _, ⟨rfl, rfl, rfl, trivial⟩, (S.perm (List.Perm.cons _ (List.Perm.swap _ _ _))), hnil he⟩
  · clear S
    rintro σ w1 ⟨e, acc', cl', A', n', c', M, hs', S, hfin⟩
    refine WP_has hs' ?_
    refine WP_drawK (fun w' => St w0 w' [.var b8 27 (bkV acc' (.slice A' n' c') cl')]) [0, 1, 2, 3, 4, 5] 6 [7, 8, 9, 10, 11, 12] [13, 14, 15, 16] [] _ rfl (by kernel_rfl) (by decide) (by decide +kernel) (fun w' hb => (S.grow hb).sub (.cons_cons _ (List.nil_sublist _))) ?_
    intro w' hb; replace S := S.grow hb; clear hb
    repeat' (first | refine jq_nil ?_ | (refine gj_move ?_; refine jq_val rfl (fun w' hJ => ⟨rfl⟩) ?_) | (refine gj_assign ?_; refine jq_val rfl (fun w' hJ => ⟨rfl⟩) ?_) | (refine gj_nilCheck ?_; refine jq_val rfl (fun w' hJ => r_nilCheck rfl) ?_) | (refine gj_fieldAddr ?_; refine jq_val rfl (fun w' hJ => r_fieldAddrL rfl) ?_) | (refine gj_load ?_; refine jq_val rfl (fun w' hJ => r_loadVarA (i := 0) hJ rfl rfl rfl rfl) ?_))
    refine kq_val rfl (r_loadVar (i := 1) (u := .bool false) S rfl rfl rfl) (S.sub (.cons_cons _ (List.nil_sublist _))) ?_
    repeat' (first | (refine gj_move ?_; refine jq_val rfl (fun w' hJ => ⟨rfl⟩) ?_) | (refine gj_assign ?_; refine jq_val rfl (fun w' hJ => ⟨rfl⟩) ?_) | (refine gj_b_neq ?_; refine jq_val rfl (fun w' hJ => r_neq rfl rfl) ?_))
    refine jq_val rfl (fun w' hJ => r_pickF rfl) ?_
    repeat' (first | refine jq_nil ?_ | (refine gj_nilCheck ?_; refine jq_val rfl (fun w' hJ => r_nilCheck rfl) ?_) | (refine gj_fieldAddr ?_; refine jq_val rfl (fun w' hJ => r_fieldAddrL rfl) ?_))
    refine wj_skipE rfl (r_storeVar (i := 1) S rfl rfl rfl rfl (of_decide_eq_true rfl) (of_decide_eq_true rfl)) ?_
    intro w S'; refine ⟨S'.sub (.cons_cons _ (List.nil_sublist _)), ?_⟩; replace S := S'; clear S'
    refine wj_val rfl (r_nilCheck rfl) (S.sub (.cons_cons _ (List.nil_sublist _))) ?_
    refine wj_val rfl (r_fieldAddrL rfl) (S.sub (.cons_cons _ (List.nil_sublist _))) ?_
    refine wj_skipE rfl (r_storeVar (i := 1) S rfl rfl rfl rfl (of_decide_eq_true rfl) (of_decide_eq_true rfl)) ?_
    intro w S'; refine ⟨S'.sub (.cons_cons _ (List.nil_sublist _)), ?_⟩; replace S := S'; clear S'
    refine wj_nil ?_
    refine wl_nil ?_
    refine calm_normal ?_
    exact end0 rfl ⟨_, rfl, hfin _ S⟩
end Go.Proofs.YtijnbpnficcpmaaDoor
/- bill.Settle. -/
namespace Go.Proofs.YtijnbpnficcpmaaDoor
open Go Go.Gx Go.RowKit
set_option linter.unusedVariables false
set_option linter.unusedSimpArgs false

theorem cloneP_run {v : Value} {l : List GPosting} {w0 : World} (hr : Rd (fGPosting).ty w0 v l) (hl : l.length ≤ 1000000) : CallsR Tryd.prog 56 #[v] w0 fun v' w' => NewRow (fGPosting) 84 w0 w' v' l := by
  have S := St.start w0
  obtain ⟨A0, c, rfl⟩ := hr.len
  refine CallsR.mk ?_
  refine calls_enter Tryd.func56 rfl (by intro _ h; first | exact nomatch h.1 | (obtain ⟨_, h, _⟩ := h; exact nomatch h)) Tryd.ntmps56 rfl ?_
  cases A0 with
  | none =>
    have hl0 : l = [] := by
      obtain ⟨A1, c1, e, _, h⟩ := hr
      cases e
      rcases h with h | ⟨a, e, _⟩
      · exact h.1
      · cases e
    subst hl0
    repeat' (first | refine WP_seq ?_ | refine WP_region ?_ | refine wl_nil ?_ | refine then_normal ?_ | refine then_ret ?_ | refine WP_ret ?_ | refine WP_condT rfl ?_ | (refine g_move ?_; refine st_move rfl ?_) | (refine g_assign ?_; refine st_assign rfl ?_) | (refine g_b_eql ?_; refine st_val rfl (r_eqlNil rfl rfl) ?_))
    exact end1 rfl rfl ⟨_, rfl, S.below, NewRow.nil _ _ _ _⟩
  | some a0 =>
    repeat' (first | refine WP_seq ?_ | refine WP_region ?_ | refine wl_nil ?_ | refine then_normal ?_ | refine WP_skip ?_ | refine WP_condF rfl ?_ | (refine g_move ?_; refine st_move rfl ?_) | (refine g_assign ?_; refine st_assign rfl ?_) | (refine g_b_eql ?_; refine st_val rfl (r_eqlNil rfl rfl) ?_))
    refine st_valE rfl (r_lit0 (D := fGPosting) S) ?_
    rintro vn w ⟨-, S'⟩; replace S := S'; clear S'
    repeat' ((refine g_move ?_; refine st_move rfl ?_))
    refine st_valE rfl (r_appendRd (D := fGPosting) (i := 0) S rfl (hr.mono S.below) rfl rfl rfl (by decide) one_po (by simp; omega) (by simp; omega)) ?_
    rintro va' w ⟨-, S'⟩; replace S := S'; clear S'
    repeat' (first | refine wl_nil ?_ | refine then_normal ?_ | refine WP_ret ?_ | (refine g_assign ?_; refine st_assign rfl ?_))
    exact end1 rfl rfl ⟨_, rfl, S.below, S.row (i := 0) rfl⟩

theorem indexFuncC_spec {g : FuncId} [Enters Tryd.prog g] {cl : List Value} {p : GContract → Bool} {v : Value} {l : List GContract} {w : World} (hr : Rd fGContract.ty w v l) (hl : l.length ≤ 1000000000)
    (hp : ∀ x w', Below w.heap.size w w' → CallsV Tryd.prog g (.agg (GContract.enc x).toArray :: cl).toArray w' (.bool (p x))) :
    CallsV Tryd.prog 84 #[v, .func (.func g) #[] cl.toArray] w (.int .i64 (idxF p l)) := by
  have S := St.start w
  obtain ⟨A, c, rfl⟩ := hr.len
  refine CallsV.mk ?_
  refine calls_enter Tryd.func84 rfl (by intro _ h; first | exact nomatch h.1 | (obtain ⟨_, h, _⟩ := h; exact nomatch h)) Tryd.ntmps84 rfl ?_
  repeat' (first | refine WP_seq ?_ | refine WP_region ?_ | refine wl_nil ?_ | refine then_normal ?_ | refine WP_block ?_ | (refine g_move ?_; refine st_move rfl ?_) | (refine g_assign ?_; refine st_assign rfl ?_) | (refine g_c_len ?_; refine st_val rfl (r_lenSlice rfl) ?_))
  refine WP_loop (fun k σ w1 => ∃ i : Int, Has σ [(0, .slice A l.length c), (1, .func (.func g) #[] cl.toArray), (7, .int .i64 l.length), (8, .int .i64 i)] ∧ St w w1 [] ∧ 0 ≤ i ∧ i ≤ l.length ∧ k = l.length - i.toNat ∧ ∀ j, j < i.toNat → ∀ x, l[j]? = some x → p x = false) l.length ⟨0, ⟨rfl, rfl, rfl, rfl, trivial⟩, S, by omega, by omega, by omega, fun j hj => by omega⟩ ?_
  rintro k σ w1 ⟨i, hs, S, hi0, hi1, rfl, hnone⟩
  refine WP_has hs ?_
  repeat' (first | refine WP_seq ?_ | refine WP_region ?_ | refine wl_nil ?_ | refine then_normal ?_ | refine inB_normal ?_ | refine then_exit ?_ | refine inB_here ?_ | refine then_ret ?_ | refine inB_ret ?_ | refine WP_ret ?_ | refine WP_skip ?_ | refine WP_exit ?_ | refine WP_block ?_ | (refine g_move ?_; refine st_move rfl ?_) | (refine g_assign ?_; refine st_assign rfl ?_) | (refine g_b_add ?_; (refine st_val rfl (r_addN rfl rfl ?_ ?_) ?_; (first | omega | (simp <;> omega)); (first | omega | (simp <;> omega)))) | (refine g_b_lss ?_; refine st_val rfl (r_lss rfl rfl) ?_) | (refine g_indexAddr ?_; (refine st_val rfl (r_indexAddr (hr.mono S.below) rfl rfl ?_ ?_) ?_; (first | omega | (simp <;> omega)); (first | omega | (simp <;> omega)))) | (refine g_load ?_; (refine st_val rfl (r_loadElem (hr.mono S.below) rfl ?_ ?_) ?_; (first | omega | (simp <;> omega)); (first | omega | (simp <;> omega)))) | (refine g_callV ?_; (refine st_callV rfl (r_call1 rfl rfl) ((hp _ _ S.below)) ?_; intro w hb; replace S := S.grow hb; clear hb)) | (refine WP_cond rfl (fun h => ?_) (fun h => ?_) <;> (fail_if_success (have hh : true = true := h)) <;> (fail_if_success (have hh : false = false := h)) <;> (try simp only [decide_eq_true_eq, decide_eq_false_iff_not, Bool.not_eq_true', Bool.not_eq_false', Int.not_lt, Int.not_le] at h) <;> (try (exfalso; omega))))
  · refine end1 rfl rfl ⟨ri ?_, S.below⟩
    exact (idxF_hit hnone (nth_get (by omega) (by omega)) h (by omega)).symm
  · refine ⟨⟨_, ?_, i + 1, ⟨rfl, rfl, rfl, rfl, trivial⟩, S, by omega, by omega, rfl, fun j hj x hx => ?_⟩⟩
    · omega
    · by_cases e : j = i.toNat
      · subst e; rw [nth_get (by omega) (by omega)] at hx; cases hx; exact h
      · exact hnone j (by omega) x hx
  · refine end1 rfl rfl ⟨ri ?_, S.below⟩
    exact (idxF_none fun x hx => by
      obtain ⟨j, hj⟩ := List.getElem?_of_mem hx
      exact hnone j (by have := List.getElem?_eq_some_iff.1 hj; obtain ⟨hlt, _⟩ := this; omega) x hj).symm

theorem containsFuncC_spec {g : FuncId} [Enters Tryd.prog g] {cl : List Value} {p : GContract → Bool} {v : Value} {l : List GContract} {w : World} (hr : Rd fGContract.ty w v l) (hl : l.length ≤ 1000000000)
    (hp : ∀ x w', Below w.heap.size w w' → CallsV Tryd.prog g (.agg (GContract.enc x).toArray :: cl).toArray w' (.bool (p x))) :
    CallsV Tryd.prog 55 #[v, .func (.func g) #[] cl.toArray] w (.bool (l.any p)) := by
  have S := St.start w
  refine CallsV.mk ?_
  refine calls_enter Tryd.func55 rfl (by intro _ h; first | exact nomatch h.1 | (obtain ⟨_, h, _⟩ := h; exact nomatch h)) Tryd.ntmps55 rfl ?_
  repeat' (first | refine WP_seq ?_ | refine WP_region ?_ | refine wl_nil ?_ | refine then_normal ?_ | refine WP_ret ?_ | (refine g_move ?_; refine st_move rfl ?_) | (refine g_assign ?_; refine st_assign rfl ?_) | (refine g_b_geq ?_; refine st_val rfl (r_geq rfl rfl) ?_) | (refine g_callV ?_; (refine st_callV rfl (r_call2 rfl rfl rfl) (indexFuncC_spec (hr.mono S.below) hl (fun x w' hb => hp x w' (S.below.trans (hb.mono S.below.size)))) ?_; intro w hb; replace S := S.grow hb; clear hb)))
  all_goals (refine end1 rfl rfl ⟨rb ?_, S.below⟩; rw [idxF_any])


theorem str_spec {acc cl : Int} {v : Value} {b4 : Nat} {c : GContract} {w0 : World} (h4 : CellsAt w0 ⟨b4, 0, none⟩ (bkV acc v cl)) : CallsV Tryd.prog 53 #[.agg c.enc.toArray, .pointer (some ⟨b4, 0, none⟩)] w0 (.bool (decide (acc ≤ IntKind.i64.wrap (c.Sponsor + 1)))) := by
  have S := St.start w0
  refine CallsV.mk ?_
  refine calls_enter Tryd.func53 rfl (by intro _ h; first | exact nomatch h.1 | (obtain ⟨_, h, _⟩ := h; exact nomatch h)) Tryd.ntmps53 rfl ?_
  repeat' (first | refine WP_seq ?_ | refine WP_region ?_ | refine wl_nil ?_ | refine then_normal ?_ | refine WP_ret ?_ | (refine g_assign ?_; refine st_assign rfl ?_) | (refine g_b_add ?_; refine st_val rfl (r_add rfl rfl) ?_) | (refine g_b_geq ?_; refine st_val rfl (r_geq rfl rfl) ?_) | (refine g_fieldAddr ?_; refine st_val rfl (r_fieldAddrL rfl) ?_) | (refine g_load ?_; first | refine st_val rfl (r_loadAt (h4.mono S.below) rfl rfl) ?_ | refine st_val rfl (r_loadVar (i := 0) S rfl rfl rfl) ?_) | (refine g_box ?_; refine st_valE rfl (r_box S rfl) ?_; rintro _ w ⟨b, rfl, -, S'⟩; replace S := S'; clear S'))
  exact end1 rfl rfl ⟨rfl, S.below⟩
theorem bd103 {ρ : Operand → Value} {w : World} {d : Option Tmp} {ty : TypeId} {pos : String} {af : Array Edge} {g : Option (Nat × Bool)} {a0 : Operand} {acc cl : Int} {v : Value} (h0 : ρ a0 = .agg #[.int .i64 acc, v, .int .i64 cl]) :
    Go.Gx.Runs Tryd.prog ρ ⟨d, .build 103 #[(0, a0)], ty, pos, af, g⟩ w (.ok (.value (.agg (blC acc v cl false).toArray)) w) := ⟨by
  have e : (Instr.build 103 #[(0, .agg #[.int .i64 acc, v, .int .i64 cl])]).run Tryd.prog w = .ok (.agg (blC acc v cl false).toArray) w := by kernel_rfl
  simp only [execOp, List.map_toArray, List.map_cons, List.map_nil, h0]
  exact run_bind e⟩
theorem settleB_len {acc cl due day : Int} {L L' : List GPosting} {c : GContract} (h : settleB acc cl L c due day = some L') : L'.length ≤ L.length + 2 := by
  unfold settleB at h
  split at h
  · split at h
    · have h := Option.some.inj h
      rw [← h]; unfold dispL; split <;> simp
    · cases h
  · split at h
    · split at h
      · have h := Option.some.inj h
        rw [← h]; simp
      · cases h
    · have h := Option.some.inj h
      rw [← h]; omega
theorem drop_nthC {L : List GContract} {i : Int} (h0 : 0 ≤ i) (hi : i < L.length) : L.drop i.toNat = nth L i :: L.drop (i + 1).toNat := by
  have := nth_get (l := L) (i := i) h0 hi
  rw [List.drop_eq_getElem_cons (by omega), show (i + 1).toNat = i.toNat + 1 by omega]
  congr 1
  rw [List.getElem?_eq_getElem (by omega)] at this
  exact Option.some.inj this
theorem strB_any {acc : Int} {l : List GContract} (h : validC l = true) : l.any (fun c => decide (acc ≤ IntKind.i64.wrap (c.Sponsor + 1))) = strB acc l := by
  unfold strB
  rw [Bool.eq_iff_iff, List.any_eq_true, List.any_eq_true]
  have e : ∀ c ∈ l, IntKind.i64.wrap (c.Sponsor + 1) = c.Sponsor + 1 := fun c hc => by
    have := valid_ok h hc
    unfold okC okN at this
    simp only [Bool.and_eq_true, decide_eq_true_eq] at this
    exact wrap_in (by omega) (by omega)
  constructor
  · rintro ⟨c, hc, hd⟩; exact ⟨c, hc, by rw [← e c hc]; exact hd⟩
  · rintro ⟨c, hc, hd⟩; exact ⟨c, hc, by rw [e c hc]; exact hd⟩
def SettleR (w0 : World) (acc cl : Int) (L : List GPosting) (l : List GContract) (sp : List GSpot) (day : Int) (r : Value) (w' : World) : Prop :=
  match setI acc cl L l sp day with
  | some L' => BkR w0 acc cl L' [.int .i64 0] r w'
  | none => r = .tuple #[.agg (bkV 0 (.slice none 0 0) 0).toArray, .int .i64 390]
theorem due_is {l : List GContract} {sp : List GSpot} {r : List Int × Int} {v1 v2 : Value} {w0 : World} (h : dueI l sp = r) (hr1 : Rd fGContract.ty w0 v1 l) (hr2 : Rd fGSpot.ty w0 v2 sp) (hl1 : l.length ≤ 1000000000) (hl2 : sp.length ≤ 1000000000) (hG : TblAt w0) :
    CallsR Tryd.prog 18 #[v1, v2] w0 (RowE w0 r) := by rw [← h]; exact due_run hr1 hr2 hl1 hl2 hG
set_option maxRecDepth 20000 in
set_option maxHeartbeats 2000000 in
theorem Settle_run {acc cl day : Int} {L : List GPosting} {l : List GContract} {sp : List GSpot} {v v1 v2 : Value} {w0 : World} (hr : Rd fGPosting.ty w0 v L) (hr1 : Rd fGContract.ty w0 v1 l) (hr2 : Rd fGSpot.ty w0 v2 sp) (hl : L.length ≤ 1000000) (hl1 : l.length ≤ 1000000000) (hl2 : sp.length ≤ 1000000000) (hG : TblAt w0) :
    CallsR Tryd.prog 22 #[.agg (bkV acc v cl).toArray, v1, v2, .int .i64 day] w0 (SettleR w0 acc cl L l sp day) := by
  have S := St.start w0
  obtain ⟨A1, c1, rfl⟩ := hr1.len
  have hno : ∀ {r w'}, setI acc cl L l sp day = none → r = .tuple #[.agg (bkV 0 (.slice none 0 0) 0).toArray, .int .i64 390] → SettleR w0 acc cl L l sp day r w' := fun h e => by unfold SettleR; rw [h]; exact e
  refine CallsR.mk ?_
  refine calls_enter Tryd.func22 rfl (by intro _ h; first | exact nomatch h.1 | (obtain ⟨_, h, _⟩ := h; exact nomatch h)) Tryd.ntmps22 rfl ?_
  repeat' (first | refine WP_seq ?_ | refine WP_region ?_ | refine wl_nil ?_ | refine then_normal ?_ | (refine g_move ?_; refine st_move rfl ?_) | (refine g_assign ?_; refine st_assign rfl ?_) | (refine g_box ?_; refine st_valE rfl (r_box S rfl) ?_; rintro _ w ⟨b, rfl, -, S'⟩; replace S := S'; clear S') | (refine g_alloc ?_; refine st_valE rfl (r_alloc S) ?_; rintro _ w ⟨b, rfl, -, S'⟩; replace S := S'; clear S'))
  rename_i _ b4
  obtain ⟨b8, rfl⟩ : ∃ x, x = b := ⟨_, rfl⟩
  cases hok : okI l sp with
  | false =>
    have e : setI acc cl L l sp day = none := by unfold setI; rw [hok]; rfl
    refine st_callR rfl (r_call2 rfl rfl rfl) (due_is (r := ([], 390)) (by unfold dueI; rw [hok]; rfl) (hr1.mono S.below) (hr2.mono S.below) hl1 hl2 (hG.mono S.below)) ?_
    rintro _ w hb ⟨vd, rfl, hrow⟩
    replace S := S.new hb hrow; clear hb hrow
    repeat' (first | refine WP_seq ?_ | refine WP_region ?_ | refine wl_nil ?_ | refine then_normal ?_ | refine then_ret ?_ | refine WP_ret ?_ | refine WP_condT rfl ?_ | (refine g_guard ?_; refine st_off rfl ?_) | (refine g_move ?_; refine st_move rfl ?_) | (refine g_assign ?_; refine st_assign rfl ?_) | (refine g_pick ?_; refine st_pickT rfl rfl ?_) | (refine g_b_neq ?_; refine st_val rfl (r_neq rfl rfl) ?_) | (refine g_build ?_; refine st_val rfl (bd27_ ) ?_) | (refine g_extract ?_; refine st_val rfl (r_extract rfl rfl) ?_) | (refine g_makeFunc ?_; refine st_val rfl (r_makeFn1 rfl) ?_) | (refine g_store ?_; first | (refine st_skipE rfl (r_storeVar (i := 0) S rfl rfl rfl rfl (of_decide_eq_true rfl) (of_decide_eq_true rfl)) ?_; intro w S'; replace S := S'; clear S') | (refine st_skipE rfl (r_storeVar (i := 1) S rfl rfl rfl rfl (of_decide_eq_true rfl) (of_decide_eq_true rfl)) ?_; intro w S'; replace S := S'; clear S')))
    exact endCT rfl rfl rfl S (i := 1) rfl rfl ⟨_, rfl, S.below, hno e rfl⟩
  | true =>
  obtain ⟨h1, h2⟩ := okI_t hok
  have hl12 := validC_len h1
  refine st_callR rfl (r_call2 rfl rfl rfl) (due_is (r := (dueL l sp, 0)) (by unfold dueI; rw [hok]; rfl) (hr1.mono S.below) (hr2.mono S.below) hl1 hl2 (hG.mono S.below)) ?_
  rintro _ w hb ⟨vd, rfl, hrow⟩
  replace S := S.new hb hrow; clear hb hrow
  cases hv : validBk acc cl L with
  | false =>
    have e : setI acc cl L l sp day = none := by unfold setI; rw [hv]; simp
    repeat' (first | refine WP_seq ?_ | refine WP_region ?_ | refine wl_nil ?_ | refine then_normal ?_ | refine then_ret ?_ | refine WP_ret ?_ | refine WP_condT rfl ?_ | (refine g_guard ?_; refine st_off rfl ?_) | (refine g_move ?_; refine st_move rfl ?_) | (refine g_assign ?_; refine st_assign rfl ?_) | (refine g_pick ?_; first | refine st_pickT rfl rfl ?_ | refine st_pickF rfl rfl ?_) | (refine g_b_neq ?_; refine st_val rfl (r_neq rfl rfl) ?_) | (refine g_build ?_; refine st_val rfl (bd27_ ) ?_) | (refine g_un ?_; refine st_val rfl (r_not rfl) ?_) | (refine g_extract ?_; refine st_val rfl (r_extract rfl rfl) ?_) | (refine g_makeFunc ?_; refine st_val rfl (r_makeFn1 rfl) ?_) | (refine g_load ?_; refine st_val rfl (r_loadVarA (i := 0) S rfl rfl rfl rfl) ?_) | (refine g_callV ?_; (refine st_callV rfl (r_call1 rfl rfl) (validBk_is hv (hr.mono S.below) (by omega)) ?_; intro w hb; replace S := S.grow hb; clear hb)) | (refine g_store ?_; first | (refine st_skipE rfl (r_storeVar (i := 0) S rfl rfl rfl rfl (of_decide_eq_true rfl) (of_decide_eq_true rfl)) ?_; intro w S'; replace S := S'; clear S') | (refine st_skipE rfl (r_storeVar (i := 1) S rfl rfl rfl rfl (of_decide_eq_true rfl) (of_decide_eq_true rfl)) ?_; intro w S'; replace S := S'; clear S')))
    exact endCT rfl rfl rfl S (i := 1) rfl rfl ⟨_, rfl, S.below, hno e rfl⟩
  | true =>
  cases hst : strB acc l with
  | true =>
    have e : setI acc cl L l sp day = none := by unfold setI; rw [hst]; simp
    rw [← strB_any h1] at hst
    repeat' (first | refine WP_seq ?_ | refine WP_region ?_ | refine wl_nil ?_ | refine then_normal ?_ | refine then_ret ?_ | refine WP_ret ?_ | refine WP_condT rfl ?_ | (refine g_move ?_; refine st_move rfl ?_) | (refine g_assign ?_; refine st_assign rfl ?_) | (refine g_pick ?_; refine st_pickF rfl rfl ?_) | (refine g_b_neq ?_; refine st_val rfl (r_neq rfl rfl) ?_) | (refine g_build ?_; refine st_val rfl (bd27_ ) ?_) | (refine g_un ?_; refine st_val rfl (r_not rfl) ?_) | (refine g_extract ?_; refine st_val rfl (r_extract rfl rfl) ?_) | (refine g_makeFunc ?_; refine st_val rfl (r_makeFn1 rfl) ?_) | (refine g_load ?_; refine st_val rfl (r_loadVarA (i := 0) S rfl rfl rfl rfl) ?_) | (refine g_callV ?_; first | (refine st_callV rfl (r_call1 rfl rfl) (validBk_is hv (hr.mono S.below) (by omega)) ?_; intro w hb; replace S := S.grow hb; clear hb) | (refine st_callV rfl (r_call2 rfl rfl rfl) ((hst ▸ containsFuncC_spec (g := 53) (cl := [.pointer (some ⟨b4, 0, none⟩)]) (hr1.mono S.below) hl1 (fun x w' hbb => str_spec ((S.var (i := 0) rfl).mono hbb)))) ?_; intro w hb; replace S := S.grow hb; clear hb)) | (refine g_store ?_; first | (refine st_skipE rfl (r_storeVar (i := 0) S rfl rfl rfl rfl (of_decide_eq_true rfl) (of_decide_eq_true rfl)) ?_; intro w S'; replace S := S'; clear S') | (refine st_skipE rfl (r_storeVar (i := 1) S rfl rfl rfl rfl (of_decide_eq_true rfl) (of_decide_eq_true rfl)) ?_; intro w S'; replace S := S'; clear S')))
    exact endCT rfl rfl rfl S (i := 1) rfl rfl ⟨_, rfl, S.below, hno e rfl⟩
  | false =>
  have eS : setI acc cl L l sp day = setL acc cl day (dueC (cntS l sp)) l L := by unfold setI; rw [hok, hv, hst]; rfl
  rw [← strB_any h1] at hst
  repeat' (first | refine WP_seq ?_ | refine WP_region ?_ | refine wl_nil ?_ | refine then_normal ?_ | refine WP_skip ?_ | refine WP_condF rfl ?_ | (refine g_move ?_; refine st_move rfl ?_) | (refine g_assign ?_; refine st_assign rfl ?_) | (refine g_pick ?_; refine st_pickF rfl rfl ?_) | (refine g_b_neq ?_; refine st_val rfl (r_neq rfl rfl) ?_) | (refine g_un ?_; refine st_val rfl (r_not rfl) ?_) | (refine g_extract ?_; refine st_val rfl (r_extract rfl rfl) ?_) | (refine g_makeFunc ?_; refine st_val rfl (r_makeFn1 rfl) ?_) | (refine g_load ?_; refine st_val rfl (r_loadVarA (i := 0) S rfl rfl rfl rfl) ?_) | (refine g_callV ?_; first | (refine st_callV rfl (r_call1 rfl rfl) (validBk_is hv (hr.mono S.below) (by omega)) ?_; intro w hb; replace S := S.grow hb; clear hb) | (refine st_callV rfl (r_call2 rfl rfl rfl) ((hst ▸ containsFuncC_spec (g := 53) (cl := [.pointer (some ⟨b4, 0, none⟩)]) (hr1.mono S.below) hl1 (fun x w' hbb => str_spec ((S.var (i := 0) rfl).mono hbb)))) ?_; intro w hb; replace S := S.grow hb; clear hb)))
  repeat' (first | (refine WP_drawJ (fun w' => St w0 w' [.var b4 27 (bkV acc v cl)]) [0,1,2,3,5,6] [4,7,8] [9,10] (by kernel_rfl) (by decide) (by decide +kernel) (fun w' hb => (S.grow hb).keep [true]) ?_; intro w hb; replace S := S.grow hb; clear hb) | refine jq_nil ?_ | (refine gj_fieldAddr ?_; refine jq_val rfl (fun w' hJ => r_fieldAddrL rfl) ?_) | (refine gj_load ?_; refine jq_val rfl (fun w' hJ => r_loadVar (i := 0) hJ rfl rfl rfl) ?_))
  refine wj_callR rfl (r_call1 rfl rfl) (cloneP_run (hr.mono S.below) hl) ?_
  rintro v3 w hb hrow; replace S := S.new hb hrow; clear hb hrow
  refine ⟨S.keep [true], ?_⟩
  obtain ⟨A3, c3, hz⟩ := (S.rdRow (D := fGPosting) (i := 3) rfl).len; subst hz
  repeat' ((refine gw_build ?_; refine wj_val rfl (bd27_0_1_2 rfl rfl rfl) (S.keep [true]) ?_))
  refine wj_val rfl (bd103 (acc := acc) (cl := cl) (v := .slice A3 L.length c3) rfl) (S.keep [true]) ?_
  refine wj_nil ?_
  repeat' (first | refine WP_seq ?_ | refine WP_region ?_ | refine wl_nil ?_ | refine then_normal ?_ | refine WP_block ?_ | (refine g_move ?_; refine st_move rfl ?_) | (refine g_assign ?_; refine st_assign rfl ?_) | (refine g_c_len ?_; refine st_val rfl (r_lenSlice rfl) ?_) | (refine g_box ?_; refine st_valE rfl (r_box S rfl) ?_; rintro _ w ⟨b, rfl, -, S'⟩; replace S := S'; clear S'))
  obtain ⟨bl, rfl⟩ : ∃ x, x = b := ⟨_, rfl⟩
  replace S : St w0 w [.var b4 27 (bkV acc v cl), .var b8 27 (bkV 0 (.slice none 0 0) 0), rowOb (fInt .i64) 3 vd (dueL l sp), rowP (.slice A3 L.length c3) L, ledB bl acc (.slice A3 L.length c3) cl false] := S
  obtain ⟨A2, c2, hz⟩ := (S.rdRow (D := fInt .i64) (i := 2) rfl).len; subst hz
  have hll := allT_len (by unfold validBk at hv; exact (Bool.and_eq_true_iff.1 hv).1)
  refine WP_loop (fun m σ w1 => ∃ (i : Int) (v' : Value) (Lc : List GPosting), Has σ [(3, .int .i64 day), (8, .pointer (some ⟨b8, 0, none⟩)), (10, .slice A2 (dueL l sp).length c2), (13, .pointer (some ⟨bl, 0, none⟩)), (46, .slice A1 l.length c1), (47, .int .i64 l.length), (48, .int .i64 i)] ∧ St w0 w1 [ledB bl acc v' cl false, rowP v' Lc, .var b8 27 (bkV 0 (.slice none 0 0) 0), rowOb (fInt .i64) 3 (.slice A2 (dueL l sp).length c2) (dueL l sp)] ∧ 0 ≤ i ∧ i ≤ l.length ∧ Lc.length ≤ 200 + 2 * i ∧ setL acc cl day (dueC (cntS l sp)) (l.drop i.toNat) Lc = setL acc cl day (dueC (cntS l sp)) l L ∧ m = l.length - i.toNat) l.length ⟨0, _, L, ⟨rfl, rfl, rfl, rfl, rfl, rfl, rfl, trivial⟩, (S.perm ((List.perm_append_comm (l₁ := [_, _, _]) (l₂ := [_, _])).trans ((List.Perm.swap _ _ _).trans (List.Perm.cons _ (List.Perm.cons _ (List.perm_append_comm (l₁ := [_]) (l₂ := [_, _]))))))).keep [true, true, true, true], by omega, by omega, by omega, rfl, by omega⟩ ?_
  clear S
  rintro m σ w1 ⟨i, v', Lc, hs, S, hi0, hi1, hlc, hset, rfl⟩
  refine WP_has hs ?_
  by_cases hi : i < l.length
  · have hdue := dueL_at (l := l) (sp := sp) hi0 hi
    have hdl := @dueL_len l sp
    have hsp : 0 ≤ (nth l i).Sponsor ∧ (nth l i).Sponsor ≤ 1000000 := by
      have := valid_ok h1 (nth_mem hi0 hi)
      unfold okC okN at this
      simp only [Bool.and_eq_true, decide_eq_true_eq] at this
      omega
    rw [drop_nthC hi0 hi, setL] at hset
    repeat' (first | refine WP_seq ?_ | refine WP_region ?_ | refine wl_nil ?_ | refine then_normal ?_ | refine WP_skip ?_ | refine WP_block ?_ | refine WP_drawTail 7 (by kernel_rfl) (by decide +kernel) ?_ | (refine ql_nil ?_; intro w hb; replace S := S.grow hb; clear hb) | (refine g_move ?_; refine st_move rfl ?_) | (refine g_assign ?_; refine st_assign rfl ?_) | (refine g_b_lss ?_; refine st_val rfl (r_lss rfl rfl) ?_) | (refine g_indexAddr ?_; (refine st_val rfl (r_indexAddr (hr1.mono S.below) rfl rfl ?_ ?_) ?_; (first | omega | (simp <;> omega)); (first | omega | (simp <;> omega)))) | (refine g_load ?_; (refine st_val rfl (r_loadElem (hr1.mono S.below) rfl ?_ ?_) ?_; (first | omega | (simp <;> omega)); (first | omega | (simp <;> omega)))) | (refine gq_move ?_; refine q_move rfl ?_) | (refine gq_indexAddr ?_; (refine q_val rfl (fun w' hb => r_indexAddr ((S.grow hb).rdRow (D := (fInt .i64)) (i := 3) rfl) rfl rfl ?_ ?_) ?_; (first | omega | (simp <;> omega)); (first | omega | (simp <;> omega)))) | (refine gq_load ?_; first | (refine q_val rfl (fun w' hb => r_loadElem1 ((S.grow hb).rdRow (D := (fInt .i64)) (i := 3) rfl) rfl ?_ ?_ rfl) ?_; (first | omega | (simp <;> omega)); (first | omega | (simp <;> omega))) | refine q_val rfl (fun w' hb => r_loadVarA (i := 4) (S.grow hb) rfl rfl rfl rfl) ?_) | (refine g_alloc ?_; refine st_valE rfl (r_alloc S) ?_; rintro _ w ⟨b, rfl, -, S'⟩; replace S := S'; clear S') | (refine g_store ?_; first | (refine st_skipE rfl (r_storeVar (i := 0) S rfl rfl rfl rfl (of_decide_eq_true rfl) (of_decide_eq_true rfl)) ?_; intro w S'; replace S := S'; clear S') | (refine st_skipE rfl (r_storeVar (i := 1) S rfl rfl rfl rfl (of_decide_eq_true rfl) (of_decide_eq_true rfl)) ?_; intro w S'; replace S := S'; clear S') | (refine st_skipE rfl (r_storeVar (i := 2) S rfl rfl rfl rfl (of_decide_eq_true rfl) (of_decide_eq_true rfl)) ?_; intro w S'; replace S := S'; clear S') | (refine st_skipE rfl (r_storeVar (i := 3) S rfl rfl rfl rfl (of_decide_eq_true rfl) (of_decide_eq_true rfl)) ?_; intro w S'; replace S := S'; clear S') | (refine st_skipE rfl (r_storeVar (i := 4) S rfl rfl rfl rfl (of_decide_eq_true rfl) (of_decide_eq_true rfl)) ?_; intro w S'; replace S := S'; clear S')) | (refine WP_cond rfl (fun h => ?_) (fun h => ?_) <;> (fail_if_success (have hh : true = true := h)) <;> (fail_if_success (have hh : false = false := h)) <;> (try simp only [decide_eq_true_eq, decide_eq_false_iff_not, Bool.not_eq_true', Bool.not_eq_false', Int.not_lt, Int.not_le] at h) <;> (try (exfalso; omega))))
    refine st_callW rfl (r_call4 rfl rfl rfl rfl rfl) (settle_run (bl := bl) (c := nth l i) (due := nth (dueL l sp) i) (day := day) S (by omega) hsp) ?_
    clear S
    rintro _ w hS
    unfold SetR at hS
    rw [hdue] at hS
    cases hb : settleB acc cl Lc (nth l i) (dueC (cntS l sp) (nth l i)) day with
    | none =>
      rw [hb] at hS hset
      have S := hS
      have e : setI acc cl L l sp day = none := by rw [eS, ← hset]
      replace S : St w0 w [ledB bl 0 (.slice none 0 0) 0 true, .var b8 27 (bkV 0 (.slice none 0 0) 0), rowOb (fInt .i64) 3 (.slice A2 (dueL l sp).length c2) (dueL l sp), _] := S
      repeat' (first | refine WP_seq ?_ | refine WP_region ?_ | refine wl_nil ?_ | refine then_normal ?_ | refine then_ret ?_ | refine inB_ret ?_ | refine WP_ret ?_ | refine WP_condT rfl ?_ | (refine g_move ?_; refine st_move rfl ?_) | (refine g_assign ?_; refine st_assign rfl ?_) | (refine g_build ?_; refine st_val rfl (bd27_ ) ?_) | (refine g_nilCheck ?_; refine st_val rfl (r_nilCheck rfl) ?_) | (refine g_fieldAddr ?_; refine st_val rfl (r_fieldAddrL rfl) ?_) | (refine g_load ?_; refine st_val rfl (r_loadVar (i := 0) S rfl rfl rfl) ?_) | (refine g_store ?_; first | (refine st_skipE rfl (r_storeVar (i := 0) S rfl rfl rfl rfl (of_decide_eq_true rfl) (of_decide_eq_true rfl)) ?_; intro w S'; replace S := S'; clear S') | (refine st_skipE rfl (r_storeVar (i := 1) S rfl rfl rfl rfl (of_decide_eq_true rfl) (of_decide_eq_true rfl)) ?_; intro w S'; replace S := S'; clear S')))
      exact endCT rfl rfl rfl S (i := 1) rfl rfl ⟨_, rfl, S.below, hno e rfl⟩
    | some L' =>
      have hle := settleB_len hb
      rw [hb] at hS hset
      obtain ⟨v2, S⟩ := hS
      repeat' (first | refine WP_seq ?_ | refine WP_region ?_ | refine wl_nil ?_ | refine then_normal ?_ | refine inB_normal ?_ | refine WP_skip ?_ | refine WP_condF rfl ?_ | (refine g_move ?_; refine st_move rfl ?_) | (refine g_b_add ?_; (refine st_val rfl (r_addN rfl rfl ?_ ?_) ?_; (first | omega | (simp <;> omega)); (first | omega | (simp <;> omega)))) | (refine g_nilCheck ?_; refine st_val rfl (r_nilCheck rfl) ?_) | (refine g_fieldAddr ?_; refine st_val rfl (r_fieldAddrL rfl) ?_) | (refine g_load ?_; refine st_val rfl (r_loadVar (i := 0) S rfl rfl rfl) ?_))
      refine ⟨⟨_, ?_, i + 1, v2, L', ⟨rfl, rfl, rfl, rfl, rfl, rfl, rfl, trivial⟩, S.keep [true, true, true, true], by omega, by omega, by omega, hset, rfl⟩⟩
      omega
  · have hil : i.toNat = l.length := by omega
    rw [hil, List.drop_length, setL] at hset
    obtain ⟨A5, c5, hz⟩ := (S.rdRow (D := fGPosting) (i := 1) rfl).len; subst hz
    repeat' (first | refine WP_seq ?_ | refine WP_region ?_ | refine wl_nil ?_ | refine then_normal ?_ | refine then_exit ?_ | refine inB_here ?_ | refine WP_ret ?_ | refine WP_exit ?_ | (refine g_move ?_; refine st_move rfl ?_) | (refine g_assign ?_; refine st_assign rfl ?_) | (refine g_b_lss ?_; refine st_val rfl (r_lss rfl rfl) ?_) | (refine g_nilCheck ?_; refine st_val rfl (r_nilCheck rfl) ?_) | (refine g_fieldAddr ?_; refine st_val rfl (r_fieldAddrL rfl) ?_) | (refine g_load ?_; refine st_val rfl (r_loadVarA (i := 0) S rfl rfl rfl rfl) ?_) | (refine g_store ?_; first | (refine st_skipE rfl (r_storeVar (i := 0) S rfl rfl rfl rfl (of_decide_eq_true rfl) (of_decide_eq_true rfl)) ?_; intro w S'; replace S := S'; clear S') | (refine st_skipE rfl (r_storeVar (i := 1) S rfl rfl rfl rfl (of_decide_eq_true rfl) (of_decide_eq_true rfl)) ?_; intro w S'; replace S := S'; clear S') | (refine st_skipE rfl (r_storeVar (i := 2) S rfl rfl rfl rfl (of_decide_eq_true rfl) (of_decide_eq_true rfl)) ?_; intro w S'; replace S := S'; clear S')) | (refine WP_cond rfl (fun h => ?_) (fun h => ?_) <;> (fail_if_success (have hh : true = true := h)) <;> (fail_if_success (have hh : false = false := h)) <;> (try simp only [decide_eq_true_eq, decide_eq_false_iff_not, Bool.not_eq_true', Bool.not_eq_false', Int.not_lt, Int.not_le] at h) <;> (try (exfalso; omega))))
    refine endCT rfl rfl rfl S (i := 2) rfl rfl ⟨_, rfl, S.below, ?_⟩
    unfold SettleR
    rw [eS, ← hset]
    exact ⟨_, rfl, S.keep [false, true]⟩
end Go.Proofs.YtijnbpnficcpmaaDoor
/- The examples. -/
namespace Go.Proofs.YtijnbpnficcpmaaDoor
open Go Go.Gx Go.RowKit
set_option linter.unusedVariables false
set_option linter.unusedSimpArgs false

theorem wl_forget {P : Program} {n : Nat} {ops : Array Oper} {Q : Post} {σ : Nat → Value} {w : World} {rest : List Oper} (L : List (Nat × Value)) (h : Has σ L) (k : ∀ σ', Has σ' L → wl P n ops Q rest σ' w) : wl P n ops Q rest σ w := k σ h
abbrev allW : GWeek := ⟨16777215, 16777215, 16777215, 16777215, 16777215, 16777215, 16777215⟩
set_option maxHeartbeats 1000000 in
theorem every_spec {w0 : World} : CallsV Tryd.prog 38 #[] w0 (.agg allW.enc.toArray) := by
  have S := St.start w0
  refine CallsV.mk ?_
  refine calls_enter Tryd.func38 rfl (by intro _ h; first | exact nomatch h.1 | (obtain ⟨_, h, _⟩ := h; exact nomatch h)) Tryd.ntmps38 rfl ?_
  repeat' (first | refine WP_seq ?_ | refine WP_region ?_ | refine wl_nil ?_ | refine then_normal ?_ | refine WP_block ?_ | (refine g_assign ?_; refine st_assign rfl ?_) | (refine g_alloc ?_; refine st_valE rfl (r_alloc S) ?_; rintro _ w ⟨b, rfl, -, S'⟩; replace S := S'; clear S'))
  rename_i _ b0
  obtain ⟨b1, rfl⟩ : ∃ x, x = b := ⟨_, rfl⟩
  refine WP_loop (fun m σ w1 => ∃ (d : Nat) (q : Int), Has σ [(0, .pointer (some ⟨b0, 0, none⟩)), (1, .pointer (some ⟨b1, 0, none⟩)), (2, .int .i64 q)] ∧ St w0 w1 [.var b0 66 (GWeek.enc ⟨0, 0, 0, 0, 0, 0, 0⟩), .var b1 66 (GWeek.enc (wkN (fun _ => 16777215) d))] ∧ q = d ∧ d ≤ 7 ∧ m = 7 - d) 7 ⟨0, _, ⟨rfl, rfl, rfl, trivial⟩, S, rfl, by omega, rfl⟩ ?_
  clear S
  rintro m σ w1 ⟨d, q, hs, S, hq, hd7, hm⟩
  refine WP_has hs ?_
  by_cases hd : d = 7
  · subst hd
    have hq : q = 7 := by omega
    subst hq
    repeat' (first | refine WP_seq ?_ | refine WP_region ?_ | refine wl_nil ?_ | refine then_normal ?_ | refine then_exit ?_ | refine inB_here ?_ | refine WP_ret ?_ | refine WP_exit ?_ | refine WP_condF rfl ?_ | (refine g_move ?_; refine st_move rfl ?_) | (refine g_b_lss ?_; refine st_val rfl (r_lss rfl rfl) ?_) | (refine g_load ?_; refine st_val rfl (r_loadVarA (i := 1) S rfl rfl rfl rfl) ?_) | (refine g_store ?_; first | (refine st_skipE rfl (r_storeVar (i := 0) S rfl rfl rfl rfl (of_decide_eq_true rfl) (of_decide_eq_true rfl)) ?_; intro w S'; replace S := S'; clear S') | (refine st_skipE rfl (r_storeVar (i := 1) S rfl rfl rfl rfl (of_decide_eq_true rfl) (of_decide_eq_true rfl)) ?_; intro w S'; replace S := S'; clear S')))
    exact endCellA rfl rfl S (i := 0) rfl rfl ⟨rfl, S.below⟩
  have hdc : d = 0 ∨ d = 1 ∨ d = 2 ∨ d = 3 ∨ d = 4 ∨ d = 5 ∨ d = 6 := by omega
  rcases hdc with rfl | rfl | rfl | rfl | rfl | rfl | rfl
  · have hq : q = 0 := by omega
    subst hq
    repeat' (first | refine WP_seq ?_ | refine WP_region ?_ | refine wl_nil ?_ | refine then_normal ?_ | refine inB_normal ?_ | refine WP_skip ?_ | refine WP_block ?_ | refine WP_condT rfl ?_ | (refine g_move ?_; refine st_move rfl ?_) | (refine g_assign ?_; refine st_assign rfl ?_) | (refine g_b_add ?_; (refine st_val rfl (r_addN rfl rfl ?_ ?_) ?_; (first | omega | (simp <;> omega)); (first | omega | (simp <;> omega)))) | (refine g_b_lss ?_; refine st_val rfl (r_lss rfl rfl) ?_) | (refine g_indexAddr ?_; (refine st_val rfl (r_indexAddrArrL rfl rfl ?_ ?_) ?_; (first | omega | (simp <;> omega)); (first | omega | (simp <;> omega)))) | (refine g_store ?_; first | (refine st_skipE rfl (r_storeVar (i := 0) S rfl rfl rfl rfl (of_decide_eq_true rfl) (of_decide_eq_true rfl)) ?_; intro w S'; replace S := S'; clear S') | (refine st_skipE rfl (r_storeVar (i := 1) S rfl rfl rfl rfl (of_decide_eq_true rfl) (of_decide_eq_true rfl)) ?_; intro w S'; replace S := S'; clear S')))
    exact ⟨⟨_, by omega, 1, _, ⟨rfl, rfl, rfl, trivial⟩, S, by omega, by omega, rfl⟩⟩
  · have hq : q = 1 := by omega
    subst hq
    repeat' (first | refine WP_seq ?_ | refine WP_region ?_ | refine wl_nil ?_ | refine then_normal ?_ | refine inB_normal ?_ | refine WP_skip ?_ | refine WP_block ?_ | refine WP_condT rfl ?_ | (refine g_move ?_; refine st_move rfl ?_) | (refine g_assign ?_; refine st_assign rfl ?_) | (refine g_b_add ?_; (refine st_val rfl (r_addN rfl rfl ?_ ?_) ?_; (first | omega | (simp <;> omega)); (first | omega | (simp <;> omega)))) | (refine g_b_lss ?_; refine st_val rfl (r_lss rfl rfl) ?_) | (refine g_indexAddr ?_; (refine st_val rfl (r_indexAddrArrL rfl rfl ?_ ?_) ?_; (first | omega | (simp <;> omega)); (first | omega | (simp <;> omega)))) | (refine g_store ?_; first | (refine st_skipE rfl (r_storeVar (i := 0) S rfl rfl rfl rfl (of_decide_eq_true rfl) (of_decide_eq_true rfl)) ?_; intro w S'; replace S := S'; clear S') | (refine st_skipE rfl (r_storeVar (i := 1) S rfl rfl rfl rfl (of_decide_eq_true rfl) (of_decide_eq_true rfl)) ?_; intro w S'; replace S := S'; clear S')))
    exact ⟨⟨_, by omega, 2, _, ⟨rfl, rfl, rfl, trivial⟩, S, by omega, by omega, rfl⟩⟩
  · have hq : q = 2 := by omega
    subst hq
    repeat' (first | refine WP_seq ?_ | refine WP_region ?_ | refine wl_nil ?_ | refine then_normal ?_ | refine inB_normal ?_ | refine WP_skip ?_ | refine WP_block ?_ | refine WP_condT rfl ?_ | (refine g_move ?_; refine st_move rfl ?_) | (refine g_assign ?_; refine st_assign rfl ?_) | (refine g_b_add ?_; (refine st_val rfl (r_addN rfl rfl ?_ ?_) ?_; (first | omega | (simp <;> omega)); (first | omega | (simp <;> omega)))) | (refine g_b_lss ?_; refine st_val rfl (r_lss rfl rfl) ?_) | (refine g_indexAddr ?_; (refine st_val rfl (r_indexAddrArrL rfl rfl ?_ ?_) ?_; (first | omega | (simp <;> omega)); (first | omega | (simp <;> omega)))) | (refine g_store ?_; first | (refine st_skipE rfl (r_storeVar (i := 0) S rfl rfl rfl rfl (of_decide_eq_true rfl) (of_decide_eq_true rfl)) ?_; intro w S'; replace S := S'; clear S') | (refine st_skipE rfl (r_storeVar (i := 1) S rfl rfl rfl rfl (of_decide_eq_true rfl) (of_decide_eq_true rfl)) ?_; intro w S'; replace S := S'; clear S')))
    exact ⟨⟨_, by omega, 3, _, ⟨rfl, rfl, rfl, trivial⟩, S, by omega, by omega, rfl⟩⟩
  · have hq : q = 3 := by omega
    subst hq
    repeat' (first | refine WP_seq ?_ | refine WP_region ?_ | refine wl_nil ?_ | refine then_normal ?_ | refine inB_normal ?_ | refine WP_skip ?_ | refine WP_block ?_ | refine WP_condT rfl ?_ | (refine g_move ?_; refine st_move rfl ?_) | (refine g_assign ?_; refine st_assign rfl ?_) | (refine g_b_add ?_; (refine st_val rfl (r_addN rfl rfl ?_ ?_) ?_; (first | omega | (simp <;> omega)); (first | omega | (simp <;> omega)))) | (refine g_b_lss ?_; refine st_val rfl (r_lss rfl rfl) ?_) | (refine g_indexAddr ?_; (refine st_val rfl (r_indexAddrArrL rfl rfl ?_ ?_) ?_; (first | omega | (simp <;> omega)); (first | omega | (simp <;> omega)))) | (refine g_store ?_; first | (refine st_skipE rfl (r_storeVar (i := 0) S rfl rfl rfl rfl (of_decide_eq_true rfl) (of_decide_eq_true rfl)) ?_; intro w S'; replace S := S'; clear S') | (refine st_skipE rfl (r_storeVar (i := 1) S rfl rfl rfl rfl (of_decide_eq_true rfl) (of_decide_eq_true rfl)) ?_; intro w S'; replace S := S'; clear S')))
    exact ⟨⟨_, by omega, 4, _, ⟨rfl, rfl, rfl, trivial⟩, S, by omega, by omega, rfl⟩⟩
  · have hq : q = 4 := by omega
    subst hq
    repeat' (first | refine WP_seq ?_ | refine WP_region ?_ | refine wl_nil ?_ | refine then_normal ?_ | refine inB_normal ?_ | refine WP_skip ?_ | refine WP_block ?_ | refine WP_condT rfl ?_ | (refine g_move ?_; refine st_move rfl ?_) | (refine g_assign ?_; refine st_assign rfl ?_) | (refine g_b_add ?_; (refine st_val rfl (r_addN rfl rfl ?_ ?_) ?_; (first | omega | (simp <;> omega)); (first | omega | (simp <;> omega)))) | (refine g_b_lss ?_; refine st_val rfl (r_lss rfl rfl) ?_) | (refine g_indexAddr ?_; (refine st_val rfl (r_indexAddrArrL rfl rfl ?_ ?_) ?_; (first | omega | (simp <;> omega)); (first | omega | (simp <;> omega)))) | (refine g_store ?_; first | (refine st_skipE rfl (r_storeVar (i := 0) S rfl rfl rfl rfl (of_decide_eq_true rfl) (of_decide_eq_true rfl)) ?_; intro w S'; replace S := S'; clear S') | (refine st_skipE rfl (r_storeVar (i := 1) S rfl rfl rfl rfl (of_decide_eq_true rfl) (of_decide_eq_true rfl)) ?_; intro w S'; replace S := S'; clear S')))
    exact ⟨⟨_, by omega, 5, _, ⟨rfl, rfl, rfl, trivial⟩, S, by omega, by omega, rfl⟩⟩
  · have hq : q = 5 := by omega
    subst hq
    repeat' (first | refine WP_seq ?_ | refine WP_region ?_ | refine wl_nil ?_ | refine then_normal ?_ | refine inB_normal ?_ | refine WP_skip ?_ | refine WP_block ?_ | refine WP_condT rfl ?_ | (refine g_move ?_; refine st_move rfl ?_) | (refine g_assign ?_; refine st_assign rfl ?_) | (refine g_b_add ?_; (refine st_val rfl (r_addN rfl rfl ?_ ?_) ?_; (first | omega | (simp <;> omega)); (first | omega | (simp <;> omega)))) | (refine g_b_lss ?_; refine st_val rfl (r_lss rfl rfl) ?_) | (refine g_indexAddr ?_; (refine st_val rfl (r_indexAddrArrL rfl rfl ?_ ?_) ?_; (first | omega | (simp <;> omega)); (first | omega | (simp <;> omega)))) | (refine g_store ?_; first | (refine st_skipE rfl (r_storeVar (i := 0) S rfl rfl rfl rfl (of_decide_eq_true rfl) (of_decide_eq_true rfl)) ?_; intro w S'; replace S := S'; clear S') | (refine st_skipE rfl (r_storeVar (i := 1) S rfl rfl rfl rfl (of_decide_eq_true rfl) (of_decide_eq_true rfl)) ?_; intro w S'; replace S := S'; clear S')))
    exact ⟨⟨_, by omega, 6, _, ⟨rfl, rfl, rfl, trivial⟩, S, by omega, by omega, rfl⟩⟩
  · have hq : q = 6 := by omega
    subst hq
    repeat' (first | refine WP_seq ?_ | refine WP_region ?_ | refine wl_nil ?_ | refine then_normal ?_ | refine inB_normal ?_ | refine WP_skip ?_ | refine WP_block ?_ | refine WP_condT rfl ?_ | (refine g_move ?_; refine st_move rfl ?_) | (refine g_assign ?_; refine st_assign rfl ?_) | (refine g_b_add ?_; (refine st_val rfl (r_addN rfl rfl ?_ ?_) ?_; (first | omega | (simp <;> omega)); (first | omega | (simp <;> omega)))) | (refine g_b_lss ?_; refine st_val rfl (r_lss rfl rfl) ?_) | (refine g_indexAddr ?_; (refine st_val rfl (r_indexAddrArrL rfl rfl ?_ ?_) ?_; (first | omega | (simp <;> omega)); (first | omega | (simp <;> omega)))) | (refine g_store ?_; first | (refine st_skipE rfl (r_storeVar (i := 0) S rfl rfl rfl rfl (of_decide_eq_true rfl) (of_decide_eq_true rfl)) ?_; intro w S'; replace S := S'; clear S') | (refine st_skipE rfl (r_storeVar (i := 1) S rfl rfl rfl rfl (of_decide_eq_true rfl) (of_decide_eq_true rfl)) ?_; intro w S'; replace S := S'; clear S')))
    exact ⟨⟨_, by omega, 7, _, ⟨rfl, rfl, rfl, trivial⟩, S, by omega, by omega, rfl⟩⟩
section
variable {acc cl day t : Int} {L L' : List GPosting} {l : List GContract} {sp : List GSpot} {vs : List GVerdict} {ws : List Int} {fr : Int} {r : List Int × Int} {rs : List GSpot × Int} {v v1 v2 v3 : Value} {w0 : World}
theorem settle_some (h : setI acc cl L l sp day = some L') (hr : Rd fGPosting.ty w0 v L) (hr1 : Rd fGContract.ty w0 v1 l) (hr2 : Rd fGSpot.ty w0 v2 sp) (hl : L.length ≤ 1000000) (hl1 : l.length ≤ 1000000000) (hl2 : sp.length ≤ 1000000000) (hG : TblAt w0) :
    CallsR Tryd.prog 22 #[.agg (bkV acc v cl).toArray, v1, v2, .int .i64 day] w0 (BkR w0 acc cl L' [.int .i64 0]) := callsR_mono (Settle_run hr hr1 hr2 hl hl1 hl2 hG) fun r w' h2 => by unfold SettleR at h2; rw [h] at h2; exact h2
theorem settle_none (h : setI acc cl L l sp day = none) (hr : Rd fGPosting.ty w0 v L) (hr1 : Rd fGContract.ty w0 v1 l) (hr2 : Rd fGSpot.ty w0 v2 sp) (hl : L.length ≤ 1000000) (hl1 : l.length ≤ 1000000000) (hl2 : sp.length ≤ 1000000000) (hG : TblAt w0) :
    CallsR Tryd.prog 22 #[.agg (bkV acc v cl).toArray, v1, v2, .int .i64 day] w0 (fun r w' => r = .tuple #[.agg (bkV 0 (.slice none 0 0) 0).toArray, .int .i64 390]) := callsR_mono (Settle_run hr hr1 hr2 hl hl1 hl2 hG) fun r w' h2 => by unfold SettleR at h2; rw [h] at h2; exact h2
theorem del_is (h : delI l sp vs fr = rs) (hr1 : Rd fGContract.ty w0 v1 l) (hr2 : Rd fGSpot.ty w0 v2 sp) (hr3 : Rd fGVerdict.ty w0 v3 vs) (hl1 : l.length ≤ 1000000000) (hl2 : sp.length ≤ 1000000000) (hl3 : vs.length ≤ 1000000000) : CallsR Tryd.prog 16 #[v1, v2, v3, .int .i64 fr] w0 (RowDl w0 rs) := by rw [← h]; exact del_run hr1 hr2 hr3 hl1 hl2 hl3
theorem shares_is (h : shI t ws = r) (hr : Rd (fInt .i64).ty w0 v ws) (hl : ws.length ≤ 1000000000) : CallsR Tryd.prog 27 #[.int .i64 t, v] w0 (RowE w0 r) := by rw [← h]; exact shares_run hr hl
theorem roy_is (h : royI t ws vs = r) (hr : Rd (fInt .i64).ty w0 v1 ws) (hr2 : Rd fGVerdict.ty w0 v2 vs) (hl : ws.length ≤ 1000000000) (hl2 : vs.length ≤ 1000000000) : CallsR Tryd.prog 29 #[.int .i64 t, v1, v2] w0 (RowE w0 r) := by rw [← h]; exact roy_run hr hr2 hl hl2
end
abbrev exC : List GContract := [⟨7, 2, 0, 5, 3, 3, 0, 30, allW, ⟨0, 1000⟩⟩]
abbrev exS : List GSpot := [⟨7, 100⟩, ⟨7, 200⟩]
abbrev exV : List GVerdict := [⟨1, 5⟩]
abbrev exR : List GVerdict := [⟨1, 5⟩, ⟨3, 0⟩, ⟨1, 4⟩, ⟨1, 5⟩]
abbrev exB : List GPosting := [⟨1, 3, 3, 0, 60, 7, -1⟩]
abbrev exB2 : List GPosting := [⟨1, 3, 3, 0, 60, 7, -1⟩, ⟨3, 40, 0, 3, 60, 7, 0⟩, ⟨1, 40, 3, 0, 30, 7, -1⟩]
theorem z1 : dueI exC exS = ([60], 0) := by decide +kernel
theorem z2 : delI exC exS exV 109 = ([⟨7, 100⟩], 0) := by decide +kernel
theorem z3 : delI exC exS exV 110 = ([], 0) := by decide +kernel
theorem z4 : setI 4 0 [] exC exS 3 = some exB := by decide +kernel
theorem z5 : setI 4 0 exB exC [⟨7, 100⟩] 40 = some exB2 := by decide +kernel
theorem z6 : setI 3 0 [] exC exS 3 = none := by decide +kernel
theorem z7 : shI 10 [1, 1, 1] = ([4, 3, 3], 0) := by decide +kernel
theorem z8 : shI 7 [0, 2, 1] = ([0, 5, 2], 0) := by decide +kernel
theorem z9 : royI 9 [4, 5] exR = ([3, 6], 0) := by decide +kernel
theorem z10 : validV exV = true := by decide +kernel
set_option maxRecDepth 20000 in
set_option maxHeartbeats 4000000 in
theorem sane_spec {w0 : World} (hG : TblAt w0) : CallsV Tryd.prog 10 #[] w0 (.bool true) := by
  have S := St.start w0
  refine CallsV.mk ?_
  refine calls_enter Tryd.func10 rfl (by intro _ h; first | exact nomatch h.1 | (obtain ⟨_, h, _⟩ := h; exact nomatch h)) Tryd.ntmps10 rfl ?_
  repeat' (first | refine WP_seq ?_ | refine WP_region ?_ | refine wl_nil ?_ | refine then_normal ?_ | (refine g_assign ?_; refine st_assign rfl ?_) | (refine g_build ?_; first | refine st_val rfl (bd68_0_1 rfl rfl) ?_ | refine st_val rfl (bd70_0_1_3_4_5_7_8_9 rfl rfl rfl rfl rfl rfl rfl rfl) ?_) | (refine g_callV ?_; (refine st_callV rfl (r_call0 rfl) (every_spec) ?_; intro w hb; replace S := S.grow hb; clear hb)))
  refine st_valE rfl (r_litF (D := fGContract) exC (fun y => .agg y.enc.toArray) S rfl rfl (fun _ => rfl) rfl (by decide) (by decide)) ?_
  rintro _ w ⟨k1, rfl, -, -, S'⟩; replace S := S'; clear S'
  repeat' (first | refine WP_seq ?_ | refine WP_region ?_ | refine wl_nil ?_ | refine then_normal ?_ | (refine g_assign ?_; refine st_assign rfl ?_) | (refine g_build ?_; refine st_val rfl (bd63_0_1 rfl rfl) ?_))
  refine st_valE rfl (r_litF (D := fGSpot) exS (fun y => .agg y.enc.toArray) S rfl rfl (fun _ => rfl) rfl (by decide) (by decide)) ?_
  rintro _ w ⟨k2, rfl, -, -, S'⟩; replace S := S'; clear S'
  repeat' (first | refine WP_seq ?_ | refine WP_region ?_ | refine wl_nil ?_ | refine then_normal ?_ | (refine g_assign ?_; refine st_assign rfl ?_) | (refine g_build ?_; refine st_val rfl (bd60_0_1 rfl rfl) ?_))
  refine st_valE rfl (r_litF (D := fGVerdict) exV (fun y => .agg y.enc.toArray) S rfl rfl (fun _ => rfl) rfl (by decide) (by decide)) ?_
  rintro _ w ⟨k3, rfl, -, -, S'⟩; replace S := S'; clear S'
  repeat' (first | refine WP_seq ?_ | refine WP_region ?_ | refine wl_nil ?_ | refine then_normal ?_ | (refine g_move ?_; refine st_move rfl ?_) | (refine g_assign ?_; refine st_assign rfl ?_))
  refine st_callR rfl (r_call2 rfl rfl rfl) (due_is z1 (S.rdRow (D := fGContract) (i := 0) rfl) (S.rdRow (D := fGSpot) (i := 1) rfl) (by decide) (by decide) (hG.mono S.below)) ?_
  rintro _ w hb ⟨v4, rfl, hrow⟩; replace S := S.new hb hrow; clear hb hrow
  refine wl_forget [(1, .slice (some ⟨k1, 0, none⟩) 1 1), (2, .slice (some ⟨k2, 0, none⟩) 2 2), (3, .slice (some ⟨k3, 0, none⟩) 1 1), (36, .tuple #[v4, .int .i64 0])] ⟨rfl, rfl, rfl, rfl, trivial⟩ ?_
  intro σ hs
  refine wl_has hs ?_
  clear hs
  replace S : St w0 _ [rowOb (fGContract) 70 (.slice (some ⟨k1, 0, none⟩) 1 1) exC, rowOb (fGSpot) 63 (.slice (some ⟨k2, 0, none⟩) 2 2) exS, rowOb (fGVerdict) 60 (.slice (some ⟨k3, 0, none⟩) 1 1) exV, rowOb (fInt .i64) 3 v4 [60]] := S
  repeat' (first | refine WP_seq ?_ | refine WP_region ?_ | refine wl_nil ?_ | refine then_normal ?_ | (refine g_move ?_; refine st_move rfl ?_) | (refine g_assign ?_; refine st_assign rfl ?_) | (refine g_extract ?_; refine st_val rfl (r_extract rfl rfl) ?_))
  refine st_callR rfl (r_call4 rfl rfl rfl rfl rfl) (del_is z2 (S.rdRow (D := fGContract) (i := 0) rfl) (S.rdRow (D := fGSpot) (i := 1) rfl) (S.rdRow (D := fGVerdict) (i := 2) rfl) (by decide) (by decide) (by decide)) ?_
  rintro _ w hb ⟨v6, rfl, hrow⟩; replace S := S.new hb hrow; clear hb hrow
  refine wl_forget [(1, .slice (some ⟨k1, 0, none⟩) 1 1), (2, .slice (some ⟨k2, 0, none⟩) 2 2), (3, .slice (some ⟨k3, 0, none⟩) 1 1), (4, v4), (5, .int .i64 0), (43, .tuple #[v6, .int .i64 0])] ⟨rfl, rfl, rfl, rfl, rfl, rfl, trivial⟩ ?_
  intro σ hs
  refine wl_has hs ?_
  clear hs
  replace S : St w0 _ [rowOb (fGContract) 70 (.slice (some ⟨k1, 0, none⟩) 1 1) exC, rowOb (fGSpot) 63 (.slice (some ⟨k2, 0, none⟩) 2 2) exS, rowOb (fGVerdict) 60 (.slice (some ⟨k3, 0, none⟩) 1 1) exV, rowOb (fInt .i64) 3 v4 [60], rowOb (fGSpot) 63 v6 [⟨7, 100⟩]] := S
  repeat' (first | refine WP_seq ?_ | refine WP_region ?_ | refine wl_nil ?_ | refine then_normal ?_ | (refine g_move ?_; refine st_move rfl ?_) | (refine g_assign ?_; refine st_assign rfl ?_) | (refine g_extract ?_; refine st_val rfl (r_extract rfl rfl) ?_))
  refine st_callR rfl (r_call4 rfl rfl rfl rfl rfl) (del_is z3 (S.rdRow (D := fGContract) (i := 0) rfl) (S.rdRow (D := fGSpot) (i := 1) rfl) (S.rdRow (D := fGVerdict) (i := 2) rfl) (by decide) (by decide) (by decide)) ?_
  rintro _ w hb ⟨v8, rfl, hrow⟩; replace S := S.new hb hrow; clear hb hrow
  refine wl_forget [(1, .slice (some ⟨k1, 0, none⟩) 1 1), (2, .slice (some ⟨k2, 0, none⟩) 2 2), (3, .slice (some ⟨k3, 0, none⟩) 1 1), (4, v4), (5, .int .i64 0), (6, v6), (7, .int .i64 0), (50, .tuple #[v8, .int .i64 0])] ⟨rfl, rfl, rfl, rfl, rfl, rfl, rfl, rfl, trivial⟩ ?_
  intro σ hs
  refine wl_has hs ?_
  clear hs
  replace S : St w0 _ [rowOb (fGContract) 70 (.slice (some ⟨k1, 0, none⟩) 1 1) exC, rowOb (fGSpot) 63 (.slice (some ⟨k2, 0, none⟩) 2 2) exS, rowOb (fGVerdict) 60 (.slice (some ⟨k3, 0, none⟩) 1 1) exV, rowOb (fInt .i64) 3 v4 [60], rowOb (fGSpot) 63 v6 [⟨7, 100⟩], rowOb (fGSpot) 63 v8 []] := S
  obtain ⟨A8, c8, hz⟩ := (S.rdRow (D := fGSpot) (i := 5) rfl).len; subst hz
  repeat' (first | refine WP_seq ?_ | refine WP_region ?_ | refine wl_nil ?_ | refine then_normal ?_ | (refine g_move ?_; refine st_move rfl ?_) | (refine g_assign ?_; refine st_assign rfl ?_) | (refine g_build ?_; refine st_val rfl (bd27_0 rfl) ?_) | (refine g_extract ?_; refine st_val rfl (r_extract rfl rfl) ?_))
  refine st_callR rfl (r_call4 rfl rfl rfl rfl rfl) (settle_some z4 (Rd.nil _ _) (S.rdRow (D := fGContract) (i := 0) rfl) (S.rdRow (D := fGSpot) (i := 1) rfl) (by decide) (by decide) (by decide) (hG.mono S.below)) ?_
  rintro _ w hb ⟨vb, rfl, S'⟩; replace S := S.join S'; clear hb S'
  obtain ⟨A1, c1, hz⟩ := (S.rdRow (D := fGPosting) (i := 6) rfl).len; subst hz
  refine wl_forget [(1, .slice (some ⟨k1, 0, none⟩) 1 1), (2, .slice (some ⟨k2, 0, none⟩) 2 2), (3, .slice (some ⟨k3, 0, none⟩) 1 1), (4, v4), (5, .int .i64 0), (6, v6), (7, .int .i64 0), (8, .slice A8 0 c8), (9, .int .i64 0), (57, .tuple #[.agg (bkV 4 (.slice A1 1 c1) 0).toArray, .int .i64 0])] ⟨rfl, rfl, rfl, rfl, rfl, rfl, rfl, rfl, rfl, rfl, trivial⟩ ?_
  intro σ hs
  refine wl_has hs ?_
  clear hs
  replace S : St w0 _ [rowOb (fGContract) 70 (.slice (some ⟨k1, 0, none⟩) 1 1) exC, rowOb (fGSpot) 63 (.slice (some ⟨k2, 0, none⟩) 2 2) exS, rowOb (fGVerdict) 60 (.slice (some ⟨k3, 0, none⟩) 1 1) exV, rowOb (fInt .i64) 3 v4 [60], rowOb (fGSpot) 63 v6 [⟨7, 100⟩], rowOb (fGSpot) 63 (.slice A8 0 c8) [], rowP (.slice A1 1 c1) exB] := S
  repeat' (first | (refine g_move ?_; refine st_move rfl ?_) | (refine g_extract ?_; refine st_val rfl (r_extract rfl rfl) ?_))
  refine st_valE rfl (r_alloc S) ?_
  rintro _ w ⟨b10, rfl, -, S'⟩; replace S := S'; clear S'
  refine st_skipE rfl (r_storeVar (i := 7) S rfl rfl rfl rfl (of_decide_eq_true rfl) (of_decide_eq_true rfl)) ?_
  intro w S'; replace S := S'; clear S'
  repeat' (first | refine WP_seq ?_ | refine wl_nil ?_ | refine then_normal ?_ | (refine g_assign ?_; refine st_assign rfl ?_))
  refine WP_then_cut (fun σ w1 => ∃ (A2 : Option Addr) (c2 b12 : Nat), Has σ [(1, .slice (some ⟨k1, 0, none⟩) 1 1), (2, .slice (some ⟨k2, 0, none⟩) 2 2), (3, .slice (some ⟨k3, 0, none⟩) 1 1), (4, v4), (5, .int .i64 0), (6, v6), (7, .int .i64 0), (8, .slice A8 0 c8), (9, .int .i64 0), (10, .pointer (some ⟨b10, 0, none⟩)), (11, .int .i64 0), (12, .pointer (some ⟨b12, 0, none⟩)), (13, .int .i64 0)] ∧ St w0 w1 [rowOb (fGContract) 70 (.slice (some ⟨k1, 0, none⟩) 1 1) exC, rowOb (fGSpot) 63 (.slice (some ⟨k2, 0, none⟩) 2 2) exS, rowOb (fGVerdict) 60 (.slice (some ⟨k3, 0, none⟩) 1 1) exV, rowOb (fInt .i64) 3 v4 [60], rowOb (fGSpot) 63 v6 [⟨7, 100⟩], rowOb (fGSpot) 63 (.slice A8 0 c8) [], rowP (.slice A1 1 c1) exB, .var b10 27 (bkV 4 (.slice A1 1 c1) 0), rowP (.slice A2 3 c2) exB2, .var b12 27 (bkV 4 (.slice A2 3 c2) 0)]) ?_ ?_
  · refine WP_drawU (fun w' => St w0 w' [rowOb (fGContract) 70 (.slice (some ⟨k1, 0, none⟩) 1 1) exC, rowOb (fGSpot) 63 (.slice (some ⟨k2, 0, none⟩) 2 2) exS, rowOb (fGVerdict) 60 (.slice (some ⟨k3, 0, none⟩) 1 1) exV, rowOb (fInt .i64) 3 v4 [60], rowOb (fGSpot) 63 v6 [⟨7, 100⟩], rowOb (fGSpot) 63 (.slice A8 0 c8) [], rowP (.slice A1 1 c1) exB, .var b10 27 (bkV 4 (.slice A1 1 c1) 0)]) (.vals [0, 1, 2, 3] (.two 4 (.vals [5, 6, 7] (.one 8 (.one 9 (.vals [10] .fin)))) 8 (.one 4 (.vals [5, 6, 7] (.one 9 (.vals [10] .fin)))))) (by kernel_rfl) (by decide) (by decide +kernel) (fun w' hb => S.grow hb) ?_
    intro w' hb; replace S := S.grow hb; clear hb
    refine wu_vals ?_
    repeat' (first | refine jq_nil ?_ | (refine gj_move ?_; refine jq_val rfl (fun w' hJ => ⟨rfl⟩) ?_) | (refine gj_assign ?_; refine jq_val rfl (fun w' hJ => ⟨rfl⟩) ?_) | (refine jq_val rfl (fun w' hJ => r_loadVarA (i := 7) hJ rfl rfl rfl rfl) ?_) | (refine jq_val rfl (fun w' hJ => r_sliceHi (hJ.rdRow (D := fGSpot) (i := 1) rfl) rfl rfl (by decide) (by decide)) ?_))
    refine wu_two ?_ ?_
    · refine kq_callR rfl (r_call4 rfl rfl rfl rfl rfl) (settle_some z5 (S.rdRow (D := fGPosting) (i := 6) rfl) (S.rdRow (D := fGContract) (i := 0) rfl) ((S.rdRow (D := fGSpot) (i := 1) rfl).cut (lo := 0) (hi := 1) (by decide) (by decide)) (by decide) (by decide) (by decide) (hG.mono S.below)) ?_
      rintro _ w hb ⟨vc, rfl, S'⟩; obtain ⟨A2, c2, hz⟩ := (S'.rdRow (D := fGPosting) (i := 0) rfl).len; subst hz; replace S := S.join S'; clear hb S'; refine ⟨S.keep [true, true, true, true, true, true, true, true], ?_⟩
      refine wu_vals ?_; refine jq_val rfl (fun w' hJ => ⟨rfl⟩) ?_; refine jq_val rfl (fun w' hJ => r_extract rfl rfl) ?_; refine jq_val rfl (fun w' hJ => r_extract rfl rfl) ?_; refine jq_nil ?_
      refine wu_one ?_; refine kq_valE rfl (r_alloc S) ?_; rintro _ w ⟨b12, rfl, -, S'⟩; replace S := S'; clear S'; refine ⟨S.keep [true, true, true, true, true, true, true, true], ?_⟩
      refine wu_one ?_; refine kq_skipE rfl (r_storeVar (i := 9) S rfl rfl rfl rfl (of_decide_eq_true rfl) (of_decide_eq_true rfl)) ?_; intro w S'; replace S := S'; clear S'; refine ⟨S.keep [true, true, true, true, true, true, true, true], ?_⟩
      refine wu_vals ?_; refine jq_val rfl (fun w' hJ => ⟨rfl⟩) ?_; refine jq_nil ?_; refine wu_fin ?_; refine calm_normal ?_; exact ⟨A2, c2, b12, ⟨rfl, rfl, rfl, rfl, rfl, rfl, rfl, rfl, rfl, rfl, rfl, rfl, rfl, trivial⟩, S⟩
    · refine kq_valE rfl (r_alloc S) ?_; rintro _ w ⟨b12, rfl, -, S'⟩; replace S := S'; clear S'; refine ⟨S.keep [true, true, true, true, true, true, true, true], ?_⟩
      refine wu_one ?_; refine kq_callR rfl (r_call4 rfl rfl rfl rfl rfl) (settle_some z5 (S.rdRow (D := fGPosting) (i := 6) rfl) (S.rdRow (D := fGContract) (i := 0) rfl) ((S.rdRow (D := fGSpot) (i := 1) rfl).cut (lo := 0) (hi := 1) (by decide) (by decide)) (by decide) (by decide) (by decide) (hG.mono S.below)) ?_
      rintro _ w hb ⟨vc, rfl, S'⟩; obtain ⟨A2, c2, hz⟩ := (S'.rdRow (D := fGPosting) (i := 0) rfl).len; subst hz; replace S := S.join S'; clear hb S'; refine ⟨S.keep [true, true, true, true, true, true, true, true], ?_⟩
      refine wu_vals ?_; refine jq_val rfl (fun w' hJ => ⟨rfl⟩) ?_; refine jq_val rfl (fun w' hJ => r_extract rfl rfl) ?_; refine jq_val rfl (fun w' hJ => r_extract rfl rfl) ?_; refine jq_nil ?_
      refine wu_one ?_; refine kq_skipE rfl (r_storeVar (i := 8) S rfl rfl rfl rfl (of_decide_eq_true rfl) (of_decide_eq_true rfl)) ?_; intro w S'; replace S := S'; clear S'; refine ⟨S.keep [true, true, true, true, true, true, true, true], ?_⟩
      refine wu_vals ?_; refine jq_val rfl (fun w' hJ => ⟨rfl⟩) ?_; refine jq_nil ?_; refine wu_fin ?_; refine calm_normal ?_; exact ⟨A2, c2, b12, ⟨rfl, rfl, rfl, rfl, rfl, rfl, rfl, rfl, rfl, rfl, rfl, rfl, rfl, trivial⟩, S.perm (List.Perm.cons _ (List.Perm.cons _ (List.Perm.cons _ (List.Perm.cons _ (List.Perm.cons _ (List.Perm.cons _ (List.Perm.cons _ (List.Perm.cons _ (List.Perm.swap _ _ _)))))))))⟩
  clear S
  rintro σ w1 ⟨A2, c2, b12, hs, S⟩
  refine WP_has hs ?_
  clear hs
  repeat' (first | refine WP_seq ?_ | refine WP_region ?_ | (refine g_move ?_; refine st_move rfl ?_) | (refine g_build ?_; refine st_val rfl (bd27_0 rfl) ?_))
  refine st_callR rfl (r_call4 rfl rfl rfl rfl rfl) (settle_none z6 (Rd.nil _ _) (S.rdRow (D := fGContract) (i := 0) rfl) (S.rdRow (D := fGSpot) (i := 1) rfl) (by decide) (by decide) (by decide) (hG.mono S.below)) ?_
  rintro _ w hb rfl; replace S := S.grow hb; clear hb
  refine wl_forget [(1, .slice (some ⟨k1, 0, none⟩) 1 1), (2, .slice (some ⟨k2, 0, none⟩) 2 2), (3, .slice (some ⟨k3, 0, none⟩) 1 1), (4, v4), (5, .int .i64 0), (6, v6), (7, .int .i64 0), (8, .slice A8 0 c8), (9, .int .i64 0), (10, .pointer (some ⟨b10, 0, none⟩)), (11, .int .i64 0), (12, .pointer (some ⟨b12, 0, none⟩)), (13, .int .i64 0), (72, .tuple #[.agg (bkV 0 (.slice none 0 0) 0).toArray, .int .i64 390])] ⟨rfl, rfl, rfl, rfl, rfl, rfl, rfl, rfl, rfl, rfl, rfl, rfl, rfl, rfl, trivial⟩ ?_
  intro σ hs
  refine wl_has hs ?_
  clear hs
  replace S : St w0 _ [rowOb (fGContract) 70 (.slice (some ⟨k1, 0, none⟩) 1 1) exC, rowOb (fGSpot) 63 (.slice (some ⟨k2, 0, none⟩) 2 2) exS, rowOb (fGVerdict) 60 (.slice (some ⟨k3, 0, none⟩) 1 1) exV, rowOb (fInt .i64) 3 v4 [60], rowOb (fGSpot) 63 v6 [⟨7, 100⟩], rowOb (fGSpot) 63 (.slice A8 0 c8) [], rowP (.slice A1 1 c1) exB, .var b10 27 (bkV 4 (.slice A1 1 c1) 0), rowP (.slice A2 3 c2) exB2, .var b12 27 (bkV 4 (.slice A2 3 c2) 0)] := S
  repeat' (first | (refine g_move ?_; refine st_move rfl ?_) | (refine g_extract ?_; refine st_val rfl (r_extract rfl rfl) ?_))
  refine st_valE rfl (r_alloc S) ?_
  rintro _ w ⟨b14, rfl, -, S'⟩; replace S := S'; clear S'
  refine st_skipE rfl (r_storeVar (i := 10) S rfl rfl rfl rfl (of_decide_eq_true rfl) (of_decide_eq_true rfl)) ?_
  intro w S'; replace S := S'; clear S'
  repeat' (first | refine WP_seq ?_ | refine WP_region ?_ | refine wl_nil ?_ | refine then_normal ?_ | (refine g_assign ?_; refine st_assign rfl ?_))
  refine st_valE rfl (r_litF (D := fInt .i64) [1, 1, 1] (Value.int .i64) S rfl rfl (fun _ => rfl) rfl (by decide) (by decide)) ?_
  rintro _ w ⟨k4, rfl, -, -, S'⟩; replace S := S'; clear S'
  skip
  refine st_callR rfl (r_call2 rfl rfl rfl) (shares_is z7 (S.rdRow (D := fInt .i64) (i := 11) rfl) (by decide)) ?_
  rintro _ w hb ⟨v16, rfl, hrow⟩; replace S := S.new hb hrow; clear hb hrow
  refine wl_forget [(1, .slice (some ⟨k1, 0, none⟩) 1 1), (2, .slice (some ⟨k2, 0, none⟩) 2 2), (3, .slice (some ⟨k3, 0, none⟩) 1 1), (4, v4), (5, .int .i64 0), (6, v6), (7, .int .i64 0), (8, .slice A8 0 c8), (9, .int .i64 0), (10, .pointer (some ⟨b10, 0, none⟩)), (11, .int .i64 0), (12, .pointer (some ⟨b12, 0, none⟩)), (13, .int .i64 0), (15, .int .i64 390), (77, .tuple #[v16, .int .i64 0])] ⟨rfl, rfl, rfl, rfl, rfl, rfl, rfl, rfl, rfl, rfl, rfl, rfl, rfl, rfl, rfl, trivial⟩ ?_
  intro σ hs
  refine wl_has hs ?_
  clear hs
  replace S : St w0 _ [rowOb (fGContract) 70 (.slice (some ⟨k1, 0, none⟩) 1 1) exC, rowOb (fGSpot) 63 (.slice (some ⟨k2, 0, none⟩) 2 2) exS, rowOb (fGVerdict) 60 (.slice (some ⟨k3, 0, none⟩) 1 1) exV, rowOb (fInt .i64) 3 v4 [60], rowOb (fGSpot) 63 v6 [⟨7, 100⟩], rowOb (fGSpot) 63 (.slice A8 0 c8) [], rowP (.slice A1 1 c1) exB, .var b10 27 (bkV 4 (.slice A1 1 c1) 0), rowP (.slice A2 3 c2) exB2, .var b12 27 (bkV 4 (.slice A2 3 c2) 0), .var b14 27 (bkV 0 (.slice none 0 0) 0), rowOb (fInt .i64) 3 (.slice (some ⟨k4, 0, none⟩) 3 3) [1, 1, 1], rowOb (fInt .i64) 3 v16 [4, 3, 3]] := S
  repeat' (first | refine WP_seq ?_ | refine WP_region ?_ | refine wl_nil ?_ | refine then_normal ?_ | (refine g_move ?_; refine st_move rfl ?_) | (refine g_assign ?_; refine st_assign rfl ?_) | (refine g_extract ?_; refine st_val rfl (r_extract rfl rfl) ?_))
  refine st_valE rfl (r_litF (D := fInt .i64) [0, 2, 1] (Value.int .i64) S rfl rfl (fun _ => rfl) rfl (by decide) (by decide)) ?_
  rintro _ w ⟨k5, rfl, -, -, S'⟩; replace S := S'; clear S'
  skip
  refine st_callR rfl (r_call2 rfl rfl rfl) (shares_is z8 (S.rdRow (D := fInt .i64) (i := 13) rfl) (by decide)) ?_
  rintro _ w hb ⟨v18, rfl, hrow⟩; replace S := S.new hb hrow; clear hb hrow
  refine wl_forget [(1, .slice (some ⟨k1, 0, none⟩) 1 1), (2, .slice (some ⟨k2, 0, none⟩) 2 2), (3, .slice (some ⟨k3, 0, none⟩) 1 1), (4, v4), (5, .int .i64 0), (6, v6), (7, .int .i64 0), (8, .slice A8 0 c8), (9, .int .i64 0), (10, .pointer (some ⟨b10, 0, none⟩)), (11, .int .i64 0), (12, .pointer (some ⟨b12, 0, none⟩)), (13, .int .i64 0), (15, .int .i64 390), (16, v16), (17, .int .i64 0), (82, .tuple #[v18, .int .i64 0])] ⟨rfl, rfl, rfl, rfl, rfl, rfl, rfl, rfl, rfl, rfl, rfl, rfl, rfl, rfl, rfl, rfl, rfl, trivial⟩ ?_
  intro σ hs
  refine wl_has hs ?_
  clear hs
  replace S : St w0 _ [rowOb (fGContract) 70 (.slice (some ⟨k1, 0, none⟩) 1 1) exC, rowOb (fGSpot) 63 (.slice (some ⟨k2, 0, none⟩) 2 2) exS, rowOb (fGVerdict) 60 (.slice (some ⟨k3, 0, none⟩) 1 1) exV, rowOb (fInt .i64) 3 v4 [60], rowOb (fGSpot) 63 v6 [⟨7, 100⟩], rowOb (fGSpot) 63 (.slice A8 0 c8) [], rowP (.slice A1 1 c1) exB, .var b10 27 (bkV 4 (.slice A1 1 c1) 0), rowP (.slice A2 3 c2) exB2, .var b12 27 (bkV 4 (.slice A2 3 c2) 0), .var b14 27 (bkV 0 (.slice none 0 0) 0), rowOb (fInt .i64) 3 (.slice (some ⟨k4, 0, none⟩) 3 3) [1, 1, 1], rowOb (fInt .i64) 3 v16 [4, 3, 3], rowOb (fInt .i64) 3 (.slice (some ⟨k5, 0, none⟩) 3 3) [0, 2, 1], rowOb (fInt .i64) 3 v18 [0, 5, 2]] := S
  repeat' (first | refine WP_seq ?_ | refine WP_region ?_ | refine wl_nil ?_ | refine then_normal ?_ | (refine g_move ?_; refine st_move rfl ?_) | (refine g_assign ?_; refine st_assign rfl ?_) | (refine g_extract ?_; refine st_val rfl (r_extract rfl rfl) ?_))
  refine st_valE rfl (r_litF (D := fInt .i64) [4, 5] (Value.int .i64) S rfl rfl (fun _ => rfl) rfl (by decide) (by decide)) ?_
  rintro _ w ⟨k6, rfl, -, -, S'⟩; replace S := S'; clear S'
  repeat' ((refine g_build ?_; first | refine st_val rfl (bd60_0 rfl) ?_ | refine st_val rfl (bd60_0_1 rfl rfl) ?_))
  refine st_valE rfl (r_litF (D := fGVerdict) exR (fun y => .agg y.enc.toArray) S rfl rfl (fun _ => rfl) rfl (by decide) (by decide)) ?_
  rintro _ w ⟨k7, rfl, -, -, S'⟩; replace S := S'; clear S'
  skip
  refine st_callR rfl (r_call3 rfl rfl rfl rfl) (roy_is z9 (S.rdRow (D := fInt .i64) (i := 15) rfl) (S.rdRow (D := fGVerdict) (i := 16) rfl) (by decide) (by decide)) ?_
  rintro _ w hb ⟨v20, rfl, hrow⟩; replace S := S.new hb hrow; clear hb hrow
  refine wl_forget [(1, .slice (some ⟨k1, 0, none⟩) 1 1), (2, .slice (some ⟨k2, 0, none⟩) 2 2), (3, .slice (some ⟨k3, 0, none⟩) 1 1), (4, v4), (5, .int .i64 0), (6, v6), (7, .int .i64 0), (8, .slice A8 0 c8), (9, .int .i64 0), (10, .pointer (some ⟨b10, 0, none⟩)), (11, .int .i64 0), (12, .pointer (some ⟨b12, 0, none⟩)), (13, .int .i64 0), (15, .int .i64 390), (16, v16), (17, .int .i64 0), (18, v18), (19, .int .i64 0), (92, .tuple #[v20, .int .i64 0])] ⟨rfl, rfl, rfl, rfl, rfl, rfl, rfl, rfl, rfl, rfl, rfl, rfl, rfl, rfl, rfl, rfl, rfl, rfl, rfl, trivial⟩ ?_
  intro σ hs
  refine wl_has hs ?_
  clear hs
  replace S : St w0 _ [rowOb (fGContract) 70 (.slice (some ⟨k1, 0, none⟩) 1 1) exC, rowOb (fGSpot) 63 (.slice (some ⟨k2, 0, none⟩) 2 2) exS, rowOb (fGVerdict) 60 (.slice (some ⟨k3, 0, none⟩) 1 1) exV, rowOb (fInt .i64) 3 v4 [60], rowOb (fGSpot) 63 v6 [⟨7, 100⟩], rowOb (fGSpot) 63 (.slice A8 0 c8) [], rowP (.slice A1 1 c1) exB, .var b10 27 (bkV 4 (.slice A1 1 c1) 0), rowP (.slice A2 3 c2) exB2, .var b12 27 (bkV 4 (.slice A2 3 c2) 0), .var b14 27 (bkV 0 (.slice none 0 0) 0), rowOb (fInt .i64) 3 (.slice (some ⟨k4, 0, none⟩) 3 3) [1, 1, 1], rowOb (fInt .i64) 3 v16 [4, 3, 3], rowOb (fInt .i64) 3 (.slice (some ⟨k5, 0, none⟩) 3 3) [0, 2, 1], rowOb (fInt .i64) 3 v18 [0, 5, 2], rowOb (fInt .i64) 3 (.slice (some ⟨k6, 0, none⟩) 2 2) [4, 5], rowOb (fGVerdict) 60 (.slice (some ⟨k7, 0, none⟩) 4 4) exR, rowOb (fInt .i64) 3 v20 [3, 6]] := S
  repeat' (first | refine WP_seq ?_ | refine WP_region ?_ | refine wl_nil ?_ | refine then_normal ?_ | refine WP_skip ?_ | refine WP_condF rfl ?_ | (refine g_move ?_; refine st_move rfl ?_) | (refine g_assign ?_; refine st_assign rfl ?_) | (refine g_pick ?_; first | refine st_pickT rfl rfl ?_ | refine st_pickF rfl rfl ?_) | (refine g_b_eql ?_; first | refine st_val rfl (r_eql rfl rfl) ?_ | refine st_val rfl (eql84 rfl rfl) ?_) | (refine g_b_neq ?_; refine st_val rfl (r_neq rfl rfl) ?_) | (refine g_build ?_; first | refine st_val rfl (bd84_0_1_2_4_5_6 rfl rfl rfl rfl rfl rfl) ?_ | refine st_val rfl (bd84_0_1_3_4_5 rfl rfl rfl rfl rfl) ?_) | (refine g_un ?_; refine st_val rfl (r_not rfl) ?_) | (refine g_extract ?_; refine st_val rfl (r_extract rfl rfl) ?_) | (refine g_c_len ?_; refine st_val rfl (r_lenSlice rfl) ?_) | (refine g_fieldAddr ?_; refine st_val rfl (r_fieldAddrL rfl) ?_) | (refine g_indexAddr ?_; first | (refine st_val rfl (r_indexAddr (S.rdRow (D := fGPosting) (i := 6) rfl) rfl rfl ?_ ?_) ?_; (first | omega | (simp <;> omega)); (first | omega | (simp <;> omega))) | (refine st_val rfl (r_indexAddr (S.rdRow (D := fGPosting) (i := 8) rfl) rfl rfl ?_ ?_) ?_; (first | omega | (simp <;> omega)); (first | omega | (simp <;> omega)))) | (refine g_load ?_; first | (refine st_val rfl (r_loadElem (S.rdRow (D := fGPosting) (i := 6) rfl) rfl ?_ ?_) ?_; (first | omega | (simp <;> omega)); (first | omega | (simp <;> omega))) | (refine st_val rfl (r_loadElem (S.rdRow (D := fGPosting) (i := 8) rfl) rfl ?_ ?_) ?_; (first | omega | (simp <;> omega)); (first | omega | (simp <;> omega))) | refine st_val rfl (r_loadVar (i := 7) S rfl rfl rfl) ?_ | refine st_val rfl (r_loadVar (i := 9) S rfl rfl rfl) ?_))
  refine st_valE rfl (r_litF (D := fInt .i64) [60] (Value.int .i64) S rfl rfl (fun _ => rfl) rfl (by decide) (by decide)) ?_
  rintro _ w ⟨l18, rfl, -, -, S'⟩; replace S := S'; clear S'
  repeat' (first | (refine g_move ?_; refine st_move rfl ?_) | (refine g_pick ?_; refine st_pickT rfl rfl ?_) | (refine g_b_eql ?_; refine st_val rfl (r_eql rfl rfl) ?_) | (refine g_c_len ?_; refine st_val rfl (r_lenSlice rfl) ?_) | (refine g_callV ?_; first | (refine st_callV rfl (r_call2 rfl rfl rfl) (ints_is (b := true) (by decide) (S.rdRow (D := fInt .i64) (i := 3) rfl) (S.rdRow (D := fInt .i64) (i := 18) rfl) (by decide) (by decide)) ?_; intro w hb; replace S := S.grow hb; clear hb) | (refine st_callV rfl (r_call2 rfl rfl rfl) (same_is (b := true) (by decide) (S.rdRow (D := fGSpot) (i := 4) rfl) ((S.rdRow (D := fGSpot) (i := 1) rfl).cut (lo := 0) (hi := 1) (by decide) (by decide)) (by decide) (by decide)) ?_; intro w hb; replace S := S.grow hb; clear hb)) | (refine st_val rfl (r_sliceHi (S.rdRow (D := fGSpot) (i := 1) rfl) rfl rfl (by decide) (by decide)) ?_))
  refine st_valE rfl (r_litF (D := fInt .i64) [4, 3, 3] (Value.int .i64) S rfl rfl (fun _ => rfl) rfl (by decide) (by decide)) ?_
  rintro _ w ⟨l19, rfl, -, -, S'⟩; replace S := S'; clear S'
  repeat' (first | (refine g_move ?_; refine st_move rfl ?_) | (refine g_pick ?_; refine st_pickT rfl rfl ?_) | (refine g_callV ?_; (refine st_callV rfl (r_call2 rfl rfl rfl) (ints_is (b := true) (by decide) (S.rdRow (D := fInt .i64) (i := 12) rfl) (S.rdRow (D := fInt .i64) (i := 19) rfl) (by decide) (by decide)) ?_; intro w hb; replace S := S.grow hb; clear hb)))
  refine st_valE rfl (r_litF (D := fInt .i64) [0, 5, 2] (Value.int .i64) S rfl rfl (fun _ => rfl) rfl (by decide) (by decide)) ?_
  rintro _ w ⟨l20, rfl, -, -, S'⟩; replace S := S'; clear S'
  repeat' (first | (refine g_move ?_; refine st_move rfl ?_) | (refine g_pick ?_; refine st_pickT rfl rfl ?_) | (refine g_callV ?_; (refine st_callV rfl (r_call2 rfl rfl rfl) (ints_is (b := true) (by decide) (S.rdRow (D := fInt .i64) (i := 14) rfl) (S.rdRow (D := fInt .i64) (i := 20) rfl) (by decide) (by decide)) ?_; intro w hb; replace S := S.grow hb; clear hb)))
  refine st_valE rfl (r_litF (D := fInt .i64) [3, 6] (Value.int .i64) S rfl rfl (fun _ => rfl) rfl (by decide) (by decide)) ?_
  rintro _ w ⟨l21, rfl, -, -, S'⟩; replace S := S'; clear S'
  repeat' (first | refine wl_nil ?_ | refine then_normal ?_ | refine WP_ret ?_ | (refine g_move ?_; refine st_move rfl ?_) | (refine g_assign ?_; refine st_assign rfl ?_) | (refine g_pick ?_; refine st_pickT rfl rfl ?_) | (refine g_callV ?_; first | (refine st_callV rfl (r_call2 rfl rfl rfl) (ints_is (b := true) (by decide) (S.rdRow (D := fInt .i64) (i := 17) rfl) (S.rdRow (D := fInt .i64) (i := 21) rfl) (by decide) (by decide)) ?_; intro w hb; replace S := S.grow hb; clear hb) | (refine st_callV rfl (r_call1 rfl rfl) (validV_is z10 (S.rdRow (D := fGVerdict) (i := 2) rfl) (by decide)) ?_; intro w hb; replace S := S.grow hb; clear hb)))
  exact end1 rfl rfl ⟨rfl, S.below⟩
end Go.Proofs.YtijnbpnficcpmaaDoor
/- The balances of a book: what a posting adds, and the list of them. -/
namespace Go.Proofs.YtijnbpnficcpmaaDoor
open Go Go.Gx Go.RowKit
set_option linter.unusedVariables false
set_option linter.unusedSimpArgs false

def balC (f : Nat → Int) : List Value := (List.range 16).map fun i => .int .i64 (f i)
theorem balC_len {f : Nat → Int} : (balC f).length = 16 := by simp [balC]
theorem balC_at {f : Nat → Int} {i o : Nat} (h : i < 16) (ho : o = i) : (balC f)[o]? = some (.int .i64 (f i)) := by
  subst ho
  unfold balC
  rw [List.getElem?_map, List.getElem?_range h]; rfl
theorem balC_put {f : Nat → Int} {i o : Nat} {x : Int} (h : i < 16) (ho : o = i) : splice (balC f) o [.int .i64 x] = balC (fun k => if k = i then x else f k) := by
  subst ho
  apply List.ext_getElem?
  intro k
  unfold splice
  have hl := @balC_len f
  have ht : ((balC f).take o).length = o := by rw [List.length_take]; omega
  by_cases h1 : k < o
  · rw [List.append_assoc, List.getElem?_append_left (by omega), List.getElem?_take_of_lt h1, balC_at (i := k) (by omega) rfl, balC_at (i := k) (by omega) rfl, if_neg (by omega)]
  · rw [List.append_assoc, List.getElem?_append_right (by omega), ht]
    by_cases h2 : k = o
    · subst h2
      rw [Nat.sub_self, balC_at (i := k) h rfl, if_pos rfl]; rfl
    · rw [show k - o = (k - o - 1) + 1 by omega, List.singleton_append, List.getElem?_cons_succ, List.getElem?_drop]
      by_cases h4 : k < 16
      · rw [balC_at (i := k) (by omega) (by simp; omega), balC_at (i := k) (by omega) rfl, if_neg (by omega)]
      · rw [List.getElem?_eq_none (by simp; omega), List.getElem?_eq_none (by rw [balC_len]; omega)]
/-- Balances after a posting. -/
def addB (f : Nat → Int) (p : GPosting) (a : Nat) : Int := f a + ((if p.Creditor = (a : Int) then p.Amount else 0) - (if p.Debtor = (a : Int) then p.Amount else 0))
theorem add_run {bo : Nat} {f : Nat → Int} {p : GPosting} {ex : List Ob} {w0 w : World} (S : St w0 w (.var bo 121 (balC f) :: ex)) (hc : 0 ≤ p.Creditor ∧ p.Creditor ≤ 15) (hd : 0 ≤ p.Debtor ∧ p.Debtor ≤ 15) (hne : p.Debtor ≠ p.Creditor) (ha : 0 ≤ p.Amount ∧ p.Amount ≤ 1000000000000) (hf : ∀ a, -1000000000000000 ≤ f a ∧ f a ≤ 1000000000000000) :
    CallsW Tryd.prog 72 #[.pointer (some ⟨bo, 0, none⟩), .agg p.enc.toArray] w (fun _ w' => St w0 w' (.var bo 121 (balC (addB f p)) :: ex)) := by
  have fc := hf p.Creditor.toNat
  have fd := hf p.Debtor.toNat
  obtain ⟨g, hg⟩ : ∃ g : Nat → Int, (fun k => if k = p.Creditor.toNat then f p.Creditor.toNat + p.Amount else f k) = g := ⟨_, rfl⟩
  have hgd : g p.Debtor.toNat = f p.Debtor.toNat := by rw [← hg]; exact if_neg (by omega)
  have hfin : (fun k => if k = p.Debtor.toNat then f p.Debtor.toNat - p.Amount else g k) = addB f p := by
    funext k
    rw [← hg]
    unfold addB
    simp only
    by_cases e1 : k = p.Debtor.toNat
    · subst e1; rw [if_pos rfl, if_neg (by omega), if_pos (by omega)]; omega
    · rw [if_neg e1]
      by_cases e2 : k = p.Creditor.toNat
      · subst e2; rw [if_pos rfl, if_pos (by omega), if_neg (by omega)]; omega
      · rw [if_neg e2, if_neg (by omega), if_neg (by omega)]; omega
  refine CallsW.mk ?_
  refine calls_enter Tryd.func72 rfl (by intro _ h; first | exact nomatch h.1 | (obtain ⟨_, h, _⟩ := h; exact nomatch h)) Tryd.ntmps72 rfl ?_
  repeat' (first | refine WP_seq ?_ | refine WP_region ?_ | refine wl_nil ?_ | refine then_normal ?_ | refine WP_drawTail 10 (by kernel_rfl) (by decide +kernel) ?_ | (refine ql_nil ?_; intro w hb; replace S := S.grow hb; clear hb) | (refine g_indexAddr ?_; (refine st_val rfl (r_indexAddrArrL rfl rfl ?_ ?_) ?_; (first | omega | (simp <;> omega)); (first | omega | (simp <;> omega)))) | (refine gq_move ?_; refine q_move rfl ?_) | (refine gq_b_add ?_; (refine q_val rfl (fun w' hb => r_addN rfl rfl ?_ ?_) ?_; (first | omega | (simp <;> omega)); (first | omega | (simp <;> omega)))) | (refine gq_nilCheck ?_; refine q_val rfl (fun w' hb => r_nilCheck rfl) ?_) | (refine gq_fieldAddr ?_; refine q_val rfl (fun w' hb => r_fieldAddrL rfl) ?_) | (refine gq_indexAddr ?_; (refine q_val rfl (fun w' hb => r_indexAddrArrL rfl rfl ?_ ?_) ?_; (first | omega | (simp <;> omega)); (first | omega | (simp <;> omega)))) | (refine gq_load ?_; refine q_val rfl (fun w' hb => r_loadVar (i := 0) (S.grow hb) rfl rfl rfl) ?_) | (refine g_box ?_; refine st_valE rfl (r_box S rfl) ?_; rintro _ w ⟨b, rfl, -, S'⟩; replace S := S'.front; clear S') | (refine q_val rfl (fun w' hgr => r_loadVar (i := 1) (u := .int .i64 (f p.Creditor.toNat)) (S.grow hgr) rfl rfl (balC_at (by omega) (by omega))) ?_))
  refine st_skipE rfl (r_storeVar (i := 1) (size := 1) S rfl rfl rfl rfl (by rw [balC_len]; omega) (of_decide_eq_true rfl)) ?_
  intro w S'
  have S2 : St w0 w (.var b 84 p.enc :: .var bo 121 (splice (balC f) (0 + p.Creditor.toNat * 1) [.int .i64 (f p.Creditor.toNat + p.Amount)]) :: ex) := S'
  rw [balC_put (i := p.Creditor.toNat) (by omega) (by omega), hg] at S2
  clear S S'
  have S := S2
  clear S2
  repeat' (first | refine wl_nil ?_ | refine then_normal ?_ | refine WP_drawTail 10 (by kernel_rfl) (by decide +kernel) ?_ | (refine ql_nil ?_; intro w hb; replace S := S.grow hb; clear hb) | (refine g_indexAddr ?_; (refine st_val rfl (r_indexAddrArrL rfl rfl ?_ ?_) ?_; (first | omega | (simp <;> omega)); (first | omega | (simp <;> omega)))) | (refine gq_move ?_; refine q_move rfl ?_) | (refine gq_b_sub ?_; (refine q_val rfl (fun w' hb => r_subN rfl rfl ?_ ?_) ?_; (first | omega | (simp <;> omega)); (first | omega | (simp <;> omega)))) | (refine gq_nilCheck ?_; refine q_val rfl (fun w' hb => r_nilCheck rfl) ?_) | (refine gq_fieldAddr ?_; refine q_val rfl (fun w' hb => r_fieldAddrL rfl) ?_) | (refine gq_indexAddr ?_; (refine q_val rfl (fun w' hb => r_indexAddrArrL rfl rfl ?_ ?_) ?_; (first | omega | (simp <;> omega)); (first | omega | (simp <;> omega)))) | (refine gq_load ?_; refine q_val rfl (fun w' hb => r_loadVar (i := 0) (S.grow hb) rfl rfl rfl) ?_) | (refine q_val rfl (fun w' hgr => r_loadVar (i := 1) (u := .int .i64 (g p.Debtor.toNat)) (S.grow hgr) rfl rfl (balC_at (by omega) (by omega))) ?_))
  refine st_skipE rfl (r_storeVar (i := 1) (size := 1) S rfl rfl rfl rfl (by rw [balC_len]; omega) (of_decide_eq_true rfl)) ?_
  intro w S'
  have S2 : St w0 w (.var b 84 p.enc :: .var bo 121 (splice (balC g) (0 + p.Debtor.toNat * 1) [.int .i64 (g p.Debtor.toNat - p.Amount)]) :: ex) := S'
  rw [balC_put (i := p.Debtor.toNat) (by omega) (by omega), hgd, hfin] at S2
  refine wl_nil ?_
  refine calm_normal ?_
  exact end0 rfl ⟨_, rfl, S2.tail⟩
theorem items_run {f : Nat → Int} {d : Nat} {w : World} (hd : 1 ≤ d) : ∀ is : List Nat, (∀ i ∈ is, i < 16) → (Op.eqItems d 3 1 (balC f).toArray (balC fun _ => 0).toArray is).run Tryd.prog w = .ok (is.all fun i => decide (f i = 0)) w
  | [], _ => by simp [Op.eqItems]
  | i :: is, h => by
    have hi := h i (List.mem_cons_self ..)
    have p1 := part1 (P := Tryd.prog) (T := 3) (w := w) (xs := (balC f).toArray) (off := i * 1) (v := .int .i64 (f i)) (by simpa using balC_at (f := f) hi (Nat.mul_one i))
    have p2 := part1 (P := Tryd.prog) (T := 3) (w := w) (xs := (balC fun _ => 0).toArray) (off := i * 1) (v := .int .i64 0) (by simpa using balC_at (f := fun _ => 0) hi (Nat.mul_one i))
    have p3 := eqInt (P := Tryd.prog) (T := 3) (w := w) (k' := .i64) (x := f i) (y := 0) hd
    simp only [Op.eqItems, Sem.run_bind, p1, p2, p3, Result.andThen_ok]
    rw [List.all_cons]
    cases decide (f i = 0)
    · simp
    · simpa using items_run hd is (fun j hj => h j (List.mem_cons_of_mem _ hj))
theorem r_eqlBal {ρ : Operand → Value} {w : World} {d : Option Tmp} {ty T' : TypeId} {pos : String} {af : Array Edge} {g : Option (Nat × Bool)} {s t : Operand} {f : Nat → Int} (h1 : ρ s = .agg (balC f).toArray) (h2 : ρ t = .agg (balC fun _ => 0).toArray) :
    Go.Gx.Runs Tryd.prog ρ ⟨d, .binOp .eql 121 s t T', ty, pos, af, g⟩ w (.ok (.value (.bool ((List.range 16).all fun i => decide (f i = 0)))) w) := by
  refine r_eqlAgg h1 h2 (by kernel_rfl) ?_
  obtain ⟨ti, hti⟩ : ∃ ti, Tryd.prog.info? 3 = some ti := Option.isSome_iff_exists.1 (by kernel_rfl)
  rw [run_equalIn_array (P := Tryd.prog) (w := w) 9999 _ _ Tryd.underlying121 hti, show Tryd.prog.cellsOf 3 = 1 by kernel_rfl]
  exact items_run (by decide) _ fun i hi => List.mem_range.1 hi
theorem fl_ints : ∀ l : List Int, fl (fInt .i64) l = l.map (Value.int .i64)
  | [] => rfl
  | x :: l => congrArg (Value.int .i64 x :: ·) (fl_ints l)
theorem list_run {f : Nat → Int} {acc : Int} {w0 : World} (ha : 2 ≤ acc ∧ acc ≤ 16) : CallsR Tryd.prog 73 #[.agg (balC f).toArray, .int .i64 acc] w0 (fun r w' => NewRow (fInt .i64) 3 w0 w' r (tab f acc.toNat)) := by
  have S := St.start w0
  refine CallsR.mk ?_
  refine calls_enter Tryd.func73 rfl (by intro _ h; first | exact nomatch h.1 | (obtain ⟨_, h, _⟩ := h; exact nomatch h)) Tryd.ntmps73 rfl ?_
  repeat' (first | refine WP_seq ?_ | refine WP_region ?_ | refine wl_nil ?_ | refine then_normal ?_ | (refine g_assign ?_; refine st_assign rfl ?_) | (refine g_box ?_; refine st_valE rfl (r_box S rfl) ?_; rintro _ w ⟨b, rfl, -, S'⟩; replace S := S'; clear S'))
  replace S : St w0 w [.var b 121 (balC f)] := S
  refine st_val (v := .agg (balC f).toArray) rfl (r_loadVarA (i := 0) S rfl rfl rfl rfl) ?_
  refine st_val (v := .agg (balC fun _ => 0).toArray) rfl (bd121_) ?_
  refine st_val rfl (r_eqlBal rfl rfl) ?_
  cases hz : (List.range 16).all fun i => decide (f i = 0) with
  | true =>
    repeat' (first | refine WP_seq ?_ | refine WP_region ?_ | refine wl_nil ?_ | refine then_normal ?_ | refine WP_condT rfl ?_ | (refine g_move ?_; refine st_move rfl ?_))
    refine st_valE rfl (r_makeF (D := fInt .i64) (m := acc.toNat) 0 S (by rw [show ((acc.toNat : Nat) : Int) = acc by omega]; rfl) (by rw [show ((acc.toNat : Nat) : Int) = acc by omega]; rfl) rfl (by decide) (by omega) (by omega)) ?_
    rintro vo w ⟨b2, hvo, -, S'⟩; replace S := S'; clear S'
    have e : List.replicate acc.toNat (0 : Int) = tab f acc.toNat := repl_tab fun k hk => of_decide_eq_true (List.all_eq_true.1 hz k (List.mem_range.2 (by omega)))
    rw [e] at S
    repeat' (first | refine wl_nil ?_ | refine then_normal ?_ | refine then_ret ?_ | refine WP_ret ?_ | (refine g_assign ?_; refine st_assign rfl ?_))
    exact end1 rfl rfl ⟨_, rfl, S.below, S.row (i := 1) rfl⟩
  | false =>
    repeat' (first | refine WP_seq ?_ | refine WP_region ?_ | refine wl_nil ?_ | refine then_normal ?_ | refine WP_skip ?_ | refine WP_condF rfl ?_)
    refine st_valE rfl (r_lit0 (D := fInt .i64) S) ?_
    rintro vn w ⟨-, S'⟩; replace S := S'; clear S'
    repeat' (first | (refine g_move ?_; refine st_move rfl ?_) | (refine st_val rfl (r_sliceArrHi rfl rfl (by omega) (by omega) (by omega)) ?_))
    have hR : Rd (fInt .i64).ty w (.slice (some ⟨b, 0, none⟩) (tab f acc.toNat).length 16) (tab f acc.toNat) := Rd.ofCells (D := fInt .i64) (S.var (i := 0) rfl) (by rw [tab_len]; omega) fun j u hj => by
      rw [fl_ints] at hj
      unfold tab at hj
      rw [List.map_map, List.getElem?_map] at hj
      by_cases h : j < acc.toNat
      · rw [List.getElem?_range h] at hj
        rw [← hj]
        exact balC_at (by omega) (by omega)
      · rw [List.getElem?_eq_none (by simp; omega)] at hj; cases hj
    rw [tab_len] at hR
    refine st_valE rfl (r_appendRd (D := fInt .i64) (i := 1) S rfl hR rfl rfl rfl (by decide) (fun x u hu => by cases List.mem_singleton.1 hu; rfl) (by simp [tab_len]; omega) (by simp [tab_len]; omega)) ?_
    rintro va' w ⟨-, S'⟩; replace S := S'; clear S'
    repeat' (first | refine wl_nil ?_ | refine then_normal ?_ | refine WP_ret ?_ | (refine g_assign ?_; refine st_assign rfl ?_))
    exact end1 rfl rfl ⟨_, rfl, S.below, S.row (i := 1) rfl⟩
end Go.Proofs.YtijnbpnficcpmaaDoor
/- The postings that a function lets through (book's those), and the functions. -/
namespace Go.Proofs.YtijnbpnficcpmaaDoor
open Go Go.Gx Go.RowKit
set_option linter.unusedVariables false
set_option linter.unusedSimpArgs false

/-- A call of yield with the n-th posting, which goes on. -/
def YldA (w0 : World) (base : Nat → List Ob) (isB : Nat → Bool) (P : List GPosting) (L : Nat) : Prop :=
  ∀ (n : Nat) (ex : List Ob) (w : World), n < P.length → isB n = true → St w0 w (base n ++ ex) →
    ∀ {ρ : Operand → Value} {d : Option Tmp} {ty : TypeId} {pos : String} {af : Array Edge} {g : Option (Nat × Bool)} {fo a0 : Operand} {ats : Array TypeId}, ρ fo = yldV L → ρ a0 = .agg (nth P (n : Int)).enc.toArray →
      ∃ f tmps a2 b, Go.Gx.Runs Tryd.prog ρ ⟨d, .call { callee := .value fo, args := #[a0], argTypes := ats }, ty, pos, af, g⟩ w (.ok (.round L f tmps a2 b) w) ∧
        RoundIn Fence.wide 0 Tryd.prog L f tmps a2 b w fun e w'' => ∃ u, e = .returned u ∧ (u = .bool true ∧ St w0 w'' (base (n + 1) ++ ex))
theorem st_yldA {w0 w : World} {base : Nat → List Ob} {ex : List Ob} {isB : Nat → Bool} {P : List GPosting} {L m N : Nat} {ops : Array Oper} {Q : Post} {σ : Nat → Value} {d : Option Tmp} {ty : TypeId} {pos : String} {af : Array Edge} {g : Option (Nat × Bool)} {fo a0 : Operand} {ats : Array TypeId} {rest : List Oper}
    (hw : wantS ⟨d, .call { callee := .value fo, args := #[a0], argTypes := ats }, ty, pos, af, g⟩ ops N σ = true) (hY : YldA w0 base isB P L) (hm : m < P.length) (hB : isB m = true) (S : St w0 w (base m ++ ex)) (hf : opv (cut N σ) fo = yldV L) (h0 : opv (cut N σ) a0 = .agg (nth P (m : Int)).enc.toArray)
    (k : ∀ u w1, (u = .bool true ∧ St w0 w1 (base (m + 1) ++ ex)) → wl Tryd.prog N ops Q rest (updO σ d u) w1) :
    wl Tryd.prog N ops Q (⟨d, .call { callee := .value fo, args := #[a0], argTypes := ats }, ty, pos, af, g⟩ :: rest) σ w := by
  obtain ⟨f, tm, a2, b1, hrun, hround⟩ := hY m ex w hm hB S (ρ := opv (cut N σ)) (d := d) (ty := ty) (pos := pos) (af := af) (g := g) (fo := fo) (a0 := a0) (ats := ats) hf h0
  exact st_round hw hrun hround k
set_option maxHeartbeats 1000000 in
theorem those_run {w0 w : World} {base : Nat → List Ob} {ex : List Ob} {isB : Nat → Bool} {P : List GPosting} {L b1 b2 bl gi : Nat} [Enters Tryd.prog gi] {cl : List Value} {acc c0 : Int} {v : Value} (hY : YldA w0 base isB P L) (hl : P.length ≤ 200) (hsame : ∀ n, n < P.length → isB n = false → base (n + 1) = base n)
    (hI : ∀ (n : Nat) (w : World), n < P.length → St w0 w (.var b1 114 [.pointer (some ⟨bl, 0, none⟩)] :: .var b2 124 [.func (.func gi) #[] cl.toArray] :: ledO bl acc v c0 P :: rowP v P :: (base n ++ ex)) → CallsV Tryd.prog gi (.int .i64 n :: .agg (nth P (n : Int)).enc.toArray :: cl).toArray w (.bool (isB n)))
    (S : St w0 w (.var b1 114 [.pointer (some ⟨bl, 0, none⟩)] :: .var b2 124 [.func (.func gi) #[] cl.toArray] :: ledO bl acc v c0 P :: rowP v P :: (base 0 ++ ex))) :
    CallsW Tryd.prog 98 #[yldV L, .pointer (some ⟨b1, 0, none⟩), .pointer (some ⟨b2, 0, none⟩)] w fun _ w' => St w0 w' (.var b1 114 [.pointer (some ⟨bl, 0, none⟩)] :: .var b2 124 [.func (.func gi) #[] cl.toArray] :: ledO bl acc v c0 P :: rowP v P :: (base P.length ++ ex)) := by
  obtain ⟨A, c, hz⟩ := (S.rdRow (D := fGPosting) (i := 3) rfl).len; subst hz
  refine CallsW.mk ?_
  refine calls_enter Tryd.func98 rfl (by intro _ h; first | exact nomatch h.1 | (obtain ⟨_, h, _⟩ := h; exact nomatch h)) Tryd.ntmps98 rfl ?_
  repeat' (first | refine WP_seq ?_ | refine WP_region ?_ | refine wl_nil ?_ | refine then_normal ?_ | refine WP_block ?_ | (refine g_move ?_; refine st_move rfl ?_) | (refine g_nilCheck ?_; refine st_val rfl (r_nilCheck rfl) ?_) | (refine g_c_len ?_; refine st_val rfl (r_lenSlice rfl) ?_) | (refine g_fieldAddr ?_; refine st_val rfl (r_fieldAddrL rfl) ?_) | (refine g_load ?_; first | refine st_val rfl (r_loadVar (i := 0) S rfl rfl rfl) ?_ | refine st_val rfl (r_loadVar (i := 2) S rfl rfl rfl) ?_))
  refine WP_loop (fun m σ w1 => ∃ i : Nat, ∃ p : Int, Has σ [(0, yldV L), (2, .pointer (some ⟨b2, 0, none⟩)), (10, .slice A P.length c), (11, .int .i64 P.length), (12, .int .i64 p)] ∧ St w0 w1 (.var b1 114 [.pointer (some ⟨bl, 0, none⟩)] :: .var b2 124 [.func (.func gi) #[] cl.toArray] :: ledO bl acc (.slice A P.length c) c0 P :: rowP (.slice A P.length c) P :: (base i ++ ex)) ∧ p = i ∧ i ≤ P.length ∧ m = P.length - i) P.length ⟨0, _, ⟨rfl, rfl, rfl, rfl, rfl, trivial⟩, S, rfl, by omega, by omega⟩ ?_
  clear S
  rintro m σ w1 ⟨i, p, hs, S, hp, hi1, hm⟩
  refine WP_has hs ?_
  by_cases hi : i < P.length
  · subst hp
    have hB0 := hI i
    cases hB : isB i with
    | false =>
      rw [hB] at hB0
      repeat' (first | refine WP_seq ?_ | refine WP_region ?_ | refine wl_nil ?_ | refine then_normal ?_ | refine inB_normal ?_ | refine WP_skip ?_ | refine WP_block ?_ | refine WP_condF rfl ?_ | (refine g_guard ?_; refine st_off rfl ?_) | (refine g_move ?_; refine st_move rfl ?_) | (refine g_assign ?_; refine st_assign rfl ?_) | (refine g_pick ?_; refine st_pickF rfl rfl ?_) | (refine g_b_add ?_; (refine st_val rfl (r_addN rfl rfl ?_ ?_) ?_; (first | omega | (simp <;> omega)); (first | omega | (simp <;> omega)))) | (refine g_b_lss ?_; refine st_val rfl (r_lss rfl rfl) ?_) | (refine g_indexAddr ?_; (refine st_val rfl (r_indexAddr (S.rdRow (D := fGPosting) (i := 3) rfl) rfl rfl ?_ ?_) ?_; (first | omega | (simp <;> omega)); (first | omega | (simp <;> omega)))) | (refine g_load ?_; first | (refine st_val rfl (r_loadElem (S.rdRow (D := fGPosting) (i := 3) rfl) rfl ?_ ?_) ?_; (first | omega | (simp <;> omega)); (first | omega | (simp <;> omega))) | refine st_val rfl (r_loadVarA (i := 0) S rfl rfl rfl rfl) ?_ | refine st_val rfl (r_loadVar (i := 2) S rfl rfl rfl) ?_) | (refine g_callV ?_; (refine st_callV rfl (r_call2 rfl rfl rfl) (hB0 _ hi S.tail) ?_; intro w hb; replace S := S.grow hb; clear hb)) | (refine g_alloc ?_; refine st_valE rfl (r_alloc S) ?_; rintro _ w ⟨b, rfl, -, S'⟩; replace S := S'.front; clear S') | (refine g_store ?_; first | (refine st_skipE rfl (r_storeVar (i := 0) S rfl rfl rfl rfl (of_decide_eq_true rfl) (of_decide_eq_true rfl)) ?_; intro w S'; replace S := S'; clear S') | (refine st_skipE rfl (r_storeVar (i := 1) S rfl rfl rfl rfl (of_decide_eq_true rfl) (of_decide_eq_true rfl)) ?_; intro w S'; replace S := S'; clear S') | (refine st_skipE rfl (r_storeVar (i := 2) S rfl rfl rfl rfl (of_decide_eq_true rfl) (of_decide_eq_true rfl)) ?_; intro w S'; replace S := S'; clear S') | (refine st_skipE rfl (r_storeVar (i := 3) S rfl rfl rfl rfl (of_decide_eq_true rfl) (of_decide_eq_true rfl)) ?_; intro w S'; replace S := S'; clear S') | (refine st_skipE rfl (r_storeVar (i := 4) S rfl rfl rfl rfl (of_decide_eq_true rfl) (of_decide_eq_true rfl)) ?_; intro w S'; replace S := S'; clear S')) | (refine WP_cond rfl (fun h => ?_) (fun h => ?_) <;> (fail_if_success (have hh : true = true := h)) <;> (fail_if_success (have hh : false = false := h)) <;> (try simp only [decide_eq_true_eq, decide_eq_false_iff_not, Bool.not_eq_true', Bool.not_eq_false', Int.not_lt, Int.not_le] at h) <;> (try (exfalso; omega))))
      refine nextI.mk ⟨_, ?_, i + 1, _, ⟨rfl, rfl, rfl, rfl, rfl, trivial⟩, ?_, by omega, by omega, rfl⟩
      · omega
      · rw [hsame i hi hB]; exact S.tail
    | true =>
      rw [hB] at hB0
      repeat' (first | refine WP_seq ?_ | refine WP_region ?_ | refine wl_nil ?_ | refine then_normal ?_ | refine WP_skip ?_ | refine WP_block ?_ | (refine g_move ?_; refine st_move rfl ?_) | (refine g_assign ?_; refine st_assign rfl ?_) | (refine g_b_lss ?_; refine st_val rfl (r_lss rfl rfl) ?_) | (refine g_indexAddr ?_; (refine st_val rfl (r_indexAddr (S.rdRow (D := fGPosting) (i := 3) rfl) rfl rfl ?_ ?_) ?_; (first | omega | (simp <;> omega)); (first | omega | (simp <;> omega)))) | (refine g_load ?_; first | (refine st_val rfl (r_loadElem (S.rdRow (D := fGPosting) (i := 3) rfl) rfl ?_ ?_) ?_; (first | omega | (simp <;> omega)); (first | omega | (simp <;> omega))) | refine st_val rfl (r_loadVarA (i := 0) S rfl rfl rfl rfl) ?_ | refine st_val rfl (r_loadVar (i := 2) S rfl rfl rfl) ?_) | (refine g_callV ?_; (refine st_callV rfl (r_call2 rfl rfl rfl) (hB0 _ hi S.tail) ?_; intro w hb; replace S := S.grow hb; clear hb)) | (refine g_alloc ?_; refine st_valE rfl (r_alloc S) ?_; rintro _ w ⟨b, rfl, -, S'⟩; replace S := S'.front; clear S') | (refine g_store ?_; first | (refine st_skipE rfl (r_storeVar (i := 0) S rfl rfl rfl rfl (of_decide_eq_true rfl) (of_decide_eq_true rfl)) ?_; intro w S'; replace S := S'; clear S') | (refine st_skipE rfl (r_storeVar (i := 1) S rfl rfl rfl rfl (of_decide_eq_true rfl) (of_decide_eq_true rfl)) ?_; intro w S'; replace S := S'; clear S') | (refine st_skipE rfl (r_storeVar (i := 2) S rfl rfl rfl rfl (of_decide_eq_true rfl) (of_decide_eq_true rfl)) ?_; intro w S'; replace S := S'; clear S') | (refine st_skipE rfl (r_storeVar (i := 3) S rfl rfl rfl rfl (of_decide_eq_true rfl) (of_decide_eq_true rfl)) ?_; intro w S'; replace S := S'; clear S') | (refine st_skipE rfl (r_storeVar (i := 4) S rfl rfl rfl rfl (of_decide_eq_true rfl) (of_decide_eq_true rfl)) ?_; intro w S'; replace S := S'; clear S')) | (refine WP_cond rfl (fun h => ?_) (fun h => ?_) <;> (fail_if_success (have hh : true = true := h)) <;> (fail_if_success (have hh : false = false := h)) <;> (try simp only [decide_eq_true_eq, decide_eq_false_iff_not, Bool.not_eq_true', Bool.not_eq_false', Int.not_lt, Int.not_le] at h) <;> (try (exfalso; omega))))
      refine st_yldA rfl hY hi hB (S.perm (List.perm_append_comm_assoc [_, _, _, _, _] (base i) ex)) rfl rfl ?_
      clear S
      rintro u w ⟨rfl, S⟩
      replace S := S.perm (List.perm_append_comm_assoc (base (i + 1)) [_, _, _, _, _] ex)
      repeat' (first | refine WP_region ?_ | refine wl_nil ?_ | refine then_normal ?_ | refine inB_normal ?_ | refine WP_skip ?_ | refine WP_condF rfl ?_ | (refine g_move ?_; refine st_move rfl ?_) | (refine g_pick ?_; refine st_pickT rfl rfl ?_) | (refine g_b_add ?_; (refine st_val rfl (r_addN rfl rfl ?_ ?_) ?_; (first | omega | (simp <;> omega)); (first | omega | (simp <;> omega)))) | (refine g_un ?_; refine st_val rfl (r_not rfl) ?_))
      refine nextI.mk ⟨_, ?_, i + 1, _, ⟨rfl, rfl, rfl, rfl, rfl, trivial⟩, S.tail, by omega, by omega, rfl⟩
      omega
  · have e : i = P.length := by omega
    subst e
    repeat' (first | refine WP_seq ?_ | refine WP_region ?_ | refine wl_nil ?_ | refine then_normal ?_ | (refine g_b_lss ?_; refine st_val rfl (r_lss rfl rfl) ?_))
    refine WP_cond rfl (fun h => absurd (of_decide_eq_true h) (by omega)) (fun h => ?_)
    refine WP_exit ?_
    refine then_exit ?_
    refine then_exit ?_
    refine inB_here ?_
    exact end0 rfl ⟨_, rfl, S⟩
end Go.Proofs.YtijnbpnficcpmaaDoor
/- book.Owed. -/
namespace Go.Proofs.YtijnbpnficcpmaaDoor
open Go Go.Gx Go.RowKit
set_option linter.unusedVariables false
set_option linter.unusedSimpArgs false

/-- Balances after the first postings that a function lets through. -/
def trm (p : GPosting) (a : Nat) : Int := (if p.Creditor = (a : Int) then p.Amount else 0) - (if p.Debtor = (a : Int) then p.Amount else 0)
def balN (isB : Nat → Bool) (L : List GPosting) (n a : Nat) : Int := sumN (fun i => if isB i = true then trm (nth L (i : Int)) a else 0) n
theorem balN_step {isB : Nat → Bool} {L : List GPosting} {n : Nat} (h : isB n = true) : balN isB L (n + 1) = addB (balN isB L n) (nth L (n : Int)) := by
  funext a
  unfold balN addB
  rw [sumN, if_pos h]; rfl
theorem balN_skip {isB : Nat → Bool} {L : List GPosting} {n : Nat} (h : isB n = false) : balN isB L (n + 1) = balN isB L n := by
  funext a
  unfold balN
  rw [sumN, if_neg (by rw [h]; simp), Int.add_zero]
/-- What is known of each posting of a valid book. -/
theorem post_rng {a1 : Int} {L : List GPosting} (h : allT a1 L = true) {n : Nat} (hn : n < L.length) : fmP (nth L (n : Int)) a1 = true := by
  have h1 := allT_at h (j := (n : Int)) (by omega) (by omega)
  unfold takeB at h1
  simp only [Bool.and_eq_true] at h1
  exact h1.2.1
theorem balN_rng {isB : Nat → Bool} {a1 : Int} {L : List GPosting} (h : allT a1 L = true) (a : Nat) : ∀ n, n ≤ L.length → -(1000000000000 * (n : Int)) ≤ balN isB L n a ∧ balN isB L n a ≤ 1000000000000 * (n : Int)
  | 0, _ => by unfold balN; rw [sumN]; omega
  | n + 1, hn => by
    have ih := balN_rng (isB := isB) h a n (by omega)
    have hf := of_decide_eq_true (post_rng h (n := n) (by omega))
    unfold balN at ih ⊢
    rw [sumN]
    have : -1000000000000 ≤ (if isB n = true then trm (nth L (n : Int)) a else 0) ∧ (if isB n = true then trm (nth L (n : Int)) a else 0) ≤ 1000000000000 := by
      unfold trm
      (repeat' split) <;> omega
    omega
theorem those0_run {bl gi : Nat} {cl : List Value} {w0 : World} : CallsR Tryd.prog 70 #[.pointer (some ⟨bl, 0, none⟩), .func (.func gi) #[] cl.toArray] w0 fun r w' => ∃ b1 b2, r = .func (.func 98) #[] [.pointer (some ⟨b1, 0, none⟩), .pointer (some ⟨b2, 0, none⟩)].toArray ∧ St w0 w' [.var b1 114 [.pointer (some ⟨bl, 0, none⟩)], .var b2 124 [.func (.func gi) #[] cl.toArray]] := by
  have S := St.start w0
  refine CallsR.mk ?_
  refine calls_enter Tryd.func70 rfl (by intro _ h; first | exact nomatch h.1 | (obtain ⟨_, h, _⟩ := h; exact nomatch h)) Tryd.ntmps70 rfl ?_
  repeat' (first | refine WP_seq ?_ | refine WP_region ?_ | refine wl_nil ?_ | refine then_normal ?_ | refine WP_ret ?_ | (refine g_assign ?_; refine st_assign rfl ?_) | (refine g_makeFunc ?_; refine st_val rfl (r_makeFn2 rfl rfl) ?_) | (refine g_box ?_; refine st_valE rfl (r_box S rfl) ?_; rintro _ w ⟨b, rfl, -, S'⟩; replace S := S'; clear S'))
  exact end1 rfl rfl ⟨_, rfl, S.below, _, _, rfl, S⟩
def isS (L : List GPosting) (month : Int) (n : Nat) : Bool := decide ((nth L (n : Int)).Day / 30 = month)
theorem statC_spec {L : List GPosting} {n : Nat} {month : Int} {b3 : Nat} {w0 : World} (h3 : CellsAt w0 ⟨b3, 0, none⟩ [.int .i64 month]) (hd : 0 ≤ (nth L (n : Int)).Day ∧ (nth L (n : Int)).Day ≤ 359) :
    CallsV Tryd.prog 71 #[.int .i64 n, .agg (nth L (n : Int)).enc.toArray, .pointer (some ⟨b3, 0, none⟩)] w0 (.bool (isS L month n)) := by
  have S := St.start w0
  obtain ⟨p, hp⟩ : ∃ p, nth L (n : Int) = p := ⟨_, rfl⟩
  unfold isS
  rw [hp] at hd ⊢
  refine CallsV.mk ?_
  refine calls_enter Tryd.func71 rfl (by intro _ h; first | exact nomatch h.1 | (obtain ⟨_, h, _⟩ := h; exact nomatch h)) Tryd.ntmps71 rfl ?_
  repeat' (first | refine WP_seq ?_ | refine WP_region ?_ | refine wl_nil ?_ | refine then_normal ?_ | refine WP_ret ?_ | (refine g_assign ?_; refine st_assign rfl ?_) | (refine g_b_quo ?_; (refine st_val rfl (r_quoN rfl rfl ?_ ?_ ?_) ?_; (first | omega | (simp <;> omega)); (first | omega | (simp <;> omega)); (first | omega | (simp <;> omega)))) | (refine g_b_eql ?_; refine st_val rfl (r_eql rfl rfl) ?_) | (refine g_fieldAddr ?_; refine st_val rfl (r_fieldAddrL rfl) ?_) | (refine g_load ?_; first | refine st_val rfl (r_loadAt (h3.mono S.below) rfl rfl) ?_ | refine st_val rfl (r_loadVar (i := 0) S rfl rfl rfl) ?_) | (refine g_box ?_; refine st_valE rfl (r_box S rfl) ?_; rintro _ w ⟨b, rfl, -, S'⟩; replace S := S'; clear S'))
  exact end1 rfl rfl ⟨rfl, S.below⟩
/-- Two results that are slots. -/
theorem res_tmps2 {P : Program} {fn : Func} {n : Nat} {σ : Nat → Value} {w : World} {t u : Nat} {v v2 : Value}
    (hr : fn.results = #[.tmp t, .tmp u]) (hv : cut n σ t = v) (hv2 : cut n σ u = v2) : (results fn (Go.Gx.Fr n σ).tmps).run P w = .ok (.tuple #[v, v2]) w := by
  unfold results
  rw [hr]
  refine (run_bind (mapM_two (b := v) (b2 := v2) (w1 := w) (w2 := w) ?_ ?_)).trans rfl
  · show (pure ((Go.Gx.Fr n σ).tmps.getD t undef) : Sem Value).run P w = _
    rw [Fr_getD, hv]; rfl
  · show (pure ((Go.Gx.Fr n σ).tmps.getD u undef) : Sem Value).run P w = _
    rw [Fr_getD, hv2]; rfl
end Go.Proofs.YtijnbpnficcpmaaDoor
/- book.Owed, walked. -/
namespace Go.Proofs.YtijnbpnficcpmaaDoor
open Go Go.Gx Go.RowKit
set_option linter.unusedVariables false
set_option linter.unusedSimpArgs false

end Go.Proofs.YtijnbpnficcpmaaDoor
/- pick. -/
namespace Go.Proofs.YtijnbpnficcpmaaDoor
open Go Go.Gx Go.RowKit
set_option linter.unusedVariables false
set_option linter.unusedSimpArgs false

theorem pick_spec {c n : Int} {w : World} (hc0 : -9223372036854775808 ≤ c) (hc : c ≤ 9223372036854775807) (hn : 0 < n) : CallsV Tryd.prog 15 #[.int .i64 c, .int .i64 n] w (.int .i64 (pickI c n)) := by
  have S := St.start w
  refine CallsV.mk ?_
  refine calls_enter Tryd.func15 rfl (by intro _ h; first | exact nomatch h.1 | (obtain ⟨_, h, _⟩ := h; exact nomatch h)) Tryd.ntmps15 rfl ?_
  repeat' (first | refine WP_seq ?_ | refine WP_region ?_ | refine wl_nil ?_ | refine then_normal ?_ | refine WP_ret ?_ | refine WP_skip ?_ | (refine g_move ?_; refine st_move rfl ?_) | (refine g_assign ?_; refine st_assign rfl ?_) | (refine g_b_add ?_; (refine st_val rfl (r_addN rfl rfl ?_ ?_) ?_; (first | omega | (simp <;> omega)); (first | omega | (simp <;> omega)))) | (refine g_b_rem ?_; (refine st_val rfl (r_remN rfl rfl ?_ ?_) ?_; (first | omega | (simp <;> omega)); (first | omega | (simp <;> omega)))) | (refine g_b_lss ?_; refine st_val rfl (r_lss rfl rfl) ?_) | (refine g_un ?_; (refine st_val rfl (r_negN rfl ?_ ?_) ?_; (first | omega | (simp <;> omega)); (first | omega | (simp <;> omega)))) | (refine WP_cond rfl (fun h => ?_) (fun h => ?_) <;> (fail_if_success (have hh : true = true := h)) <;> (fail_if_success (have hh : false = false := h)) <;> (try simp only [decide_eq_true_eq, decide_eq_false_iff_not, Bool.not_eq_true', Bool.not_eq_false', Int.not_lt, Int.not_le] at h) <;> (try (exfalso; omega))))
  · exact end1 rfl rfl ⟨ri (by unfold pickI; rw [if_pos h]), S.below⟩
  · exact end1 rfl rfl ⟨ri (by unfold pickI; rw [if_neg (by omega)]), S.below⟩
theorem pick_is {c n x : Int} {w : World} (hx : pickI c n = x) (hc0 : -9223372036854775808 ≤ c) (hc : c ≤ 9223372036854775807) (hn : 0 < n) : CallsV Tryd.prog 15 #[.int .i64 c, .int .i64 n] w (.int .i64 x) := by
  rw [← hx]; exact pick_spec hc0 hc hn

end Go.Proofs.YtijnbpnficcpmaaDoor
/- Whether a book owes what is due; whether two books are the same. -/
namespace Go.Proofs.YtijnbpnficcpmaaDoor
open Go Go.Gx Go.RowKit
set_option linter.unusedVariables false
set_option linter.unusedSimpArgs false

theorem sameP_is {v v2 : Value} {l m : List GPosting} {b : Bool} {w : World} (h : decide (l = m) = b) (hr : Rd fGPosting.ty w v l) (hr2 : Rd fGPosting.ty w v2 m) (hl : l.length ≤ 1000000000) (hm : m.length ≤ 1000000000) : CallsV Tryd.prog 37 #[v, v2] w (.bool b) := by
  rw [← h]; exact sameP_spec hr hr2 hl hm
theorem sameB_spec {acc cl : Int} {L : List GPosting} {v v2 : Value} {w0 : World} (hr : Rd fGPosting.ty w0 v L) (hr2 : Rd fGPosting.ty w0 v2 L) (hl : L.length ≤ 1000000000) :
    CallsV Tryd.prog 24 #[.agg (bkV acc v cl).toArray, .agg (bkV acc v2 cl).toArray] w0 (.bool true) := by
  have S := St.start w0
  refine CallsV.mk ?_
  refine calls_enter Tryd.func24 rfl (by intro _ h; first | exact nomatch h.1 | (obtain ⟨_, h, _⟩ := h; exact nomatch h)) Tryd.ntmps24 rfl ?_
  repeat' (first | refine WP_seq ?_ | refine WP_region ?_ | refine wl_nil ?_ | refine then_normal ?_ | refine WP_ret ?_ | (refine g_move ?_; refine st_move rfl ?_) | (refine g_assign ?_; refine st_assign rfl ?_) | (refine g_pick ?_; refine st_pickT rfl rfl ?_) | (refine g_b_eql ?_; refine st_val rfl (r_eql rfl rfl) ?_) | (refine g_fieldAddr ?_; refine st_val rfl (r_fieldAddrL rfl) ?_) | (refine g_load ?_; first | refine st_val rfl (r_loadVar (i := 0) S rfl rfl rfl) ?_ | refine st_val rfl (r_loadVar (i := 1) S rfl rfl rfl) ?_) | (refine g_callV ?_; (refine st_callV rfl (r_call2 rfl rfl rfl) (sameP_is (b := true) (decide_eq_true rfl) (hr.mono S.below) (hr2.mono S.below) hl hl) ?_; intro w hb; replace S := S.grow hb; clear hb)) | (refine g_box ?_; refine st_valE rfl (r_box S rfl) ?_; rintro _ w ⟨b, rfl, -, S'⟩; replace S := S'; clear S') | (refine wl_split rfl rfl (fun h => ?_) (fun h => ?_) <;> (fail_if_success (have hh : true = true := h)) <;> (fail_if_success (have hh : false = false := h)) <;> (try simp only [decide_eq_true_eq, decide_eq_false_iff_not, Bool.not_eq_true', Bool.not_eq_false', Int.not_lt, Int.not_le] at h) <;> (try (exfalso; omega)) <;> (try (exfalso; simp at h; done))))
  all_goals (refine end1 rfl rfl ⟨rb ?_, S.below⟩; simp)
end Go.Proofs.YtijnbpnficcpmaaDoor
/- BillSettles. -/
namespace Go.Proofs.YtijnbpnficcpmaaDoor
open Go Go.Gx Go.RowKit
set_option linter.unusedVariables false
set_option linter.unusedSimpArgs false

/-! ### Books and the contracts that integers determine -/
theorem made_spon {xs : List GArr8Int} {c : GContract} (hc : c ∈ madeL xs) : 0 ≤ c.Sponsor ∧ c.Sponsor ≤ 3 := by
  unfold madeL madeN at hc
  obtain ⟨k, _, rfl⟩ := List.mem_map.1 hc
  have := pickI_range (c := (nth xs (k : Int)).a1) (n := 4) (by omega)
  unfold madeC
  simp only
  omega
theorem valid_pw {l : List GContract} (h : validC l = true) : l.Pairwise fun a b => a.ID ≠ b.ID := by
  rw [List.pairwise_iff_getElem]
  intro i j hi hj hij e
  have hn := take_none h (i := (j : Int)) (by omega) (by omega)
  rw [mGet_map, List.find?_eq_none, Int.toNat_natCast] at hn
  have e1 := nth_get (l := l) (i := (i : Int)) (by omega) (by omega)
  have e2 := nth_get (l := l) (i := (j : Int)) (by omega) (by omega)
  rw [Int.toNat_natCast, List.getElem?_eq_getElem (by omega)] at e1 e2
  have := hn l[i] (List.mem_of_getElem? (i := i) (by rw [List.getElem?_take_of_lt hij, List.getElem?_eq_getElem hi]))
  rw [← Option.some.inj e2] at this
  simp [e] at this
/-- What is needed of contracts. -/
structure CoOk (l : List GContract) : Prop where
  val : validC l = true
  len : l.length ≤ 8
  spo : ∀ c ∈ l, 0 ≤ c.Sponsor ∧ c.Sponsor ≤ 3
theorem CoOk.id {l : List GContract} (h : CoOk l) {c : GContract} (hc : c ∈ l) : 0 ≤ c.ID ∧ c.ID ≤ 99 := by
  have := valid_ok h.val hc
  unfold okC okN at this
  simp only [Bool.and_eq_true, decide_eq_true_eq] at this
  omega
theorem CoOk.str {l : List GContract} (h : CoOk l) : strB 6 l = false := by
  unfold strB
  rw [List.any_eq_false]
  intro c hc
  have := h.spo c hc
  simp only [decide_eq_true_eq]
  omega
theorem dueC_rng {l : List GContract} {sp : List GSpot} (h : okI l sp = true) {c : GContract} (hc : c ∈ l) : 0 ≤ dueC (cntS l sp) c ∧ dueC (cntS l sp) c ≤ 60000000 := by
  have h1 := @cntC_le (cntS l sp) c.ID
  have h2 := @cntS_len l sp
  have h3 := validP_len (okI_t h).2
  exact due_rng (price_rng (okI_t h).1 hc) (by omega)
/-- A book that is settled. -/
structure Sett (l : List GContract) (f : GContract → Int) (cl : Int) (L : List GPosting) : Prop where
  val : validBk 6 cl L = true
  ch : ∀ c ∈ l, Ch L c.ID c.Sponsor (f c)
theorem wrap5 : IntKind.i64.wrap ((6 : Int) - 1) = 5 := wrap_in (by decide) (by decide)
theorem sett_nil {l : List GContract} : Sett l (fun _ => 0) 0 [] := ⟨by decide +kernel, fun c _ => .inl ⟨rfl, fun i h => by cases h⟩⟩
theorem Sett.next {l : List GContract} {g : GContract → Int} {cl day : Int} {L : List GPosting} {sp : List GSpot} (h : Sett l g cl L) (hl : CoOk l) (hok : okI l sp = true) (hlen : L.length ≤ 100) (hcl : 30 * cl ≤ day) (hd : 0 ≤ day ∧ day ≤ 359) (hday : ∀ q ∈ L, q.Day ≤ day) :
    ∃ E, setI 6 cl L l sp day = some (L ++ E) ∧ E.length ≤ 16 ∧ (∀ q ∈ E, q.Day = day) ∧ ((∀ c ∈ l, g c = dueC (cntS l sp) c) → E = []) ∧ Sett l (dueC (cntS l sp)) cl (L ++ E) := by
  have hv := h.val
  unfold validBk at hv
  rw [wrap5, Bool.and_eq_true] at hv
  have hll := hl.len
  obtain ⟨E, e1, e2, e3, e4, e5, e6, _⟩ := setL_ok (f := dueC (cntS l sp)) (g := g) wrap5 hv.2 hcl hd l L hv.1 (by omega) hday (valid_pw hl.val) (fun c hc => ⟨by have := hl.id hc; omega, by have := hl.spo c hc; omega, by have := dueC_rng hok hc; omega⟩) h.ch
  refine ⟨E, ?_, by omega, e3, e4, ?_, e6⟩
  · unfold setI
    rw [hok, h.val, hl.str, Bool.not_false, Bool.and_true, Bool.and_true, if_pos rfl, e1]
  · unfold validBk; rw [wrap5, e5, hv.2]; rfl
end Go.Proofs.YtijnbpnficcpmaaDoor
/- book.Statement, book.Close. -/
namespace Go.Proofs.YtijnbpnficcpmaaDoor
open Go Go.Gx Go.RowKit
set_option linter.unusedVariables false
set_option linter.unusedSimpArgs false

def stOk (acc cl : Int) (L : List GPosting) (mo : Int) : Bool := validBk acc cl L && inR mo 0 11
def StatR (w0 : World) (acc cl : Int) (L : List GPosting) (mo : Int) (r : Value) (w' : World) : Prop :=
  if stOk acc cl L mo = true then ∃ v', r = .tuple #[v', .int .i64 0] ∧ NewRow (fInt .i64) 3 w0 w' v' (tab (balN (isS L mo) L L.length) acc.toNat) else r = .tuple #[.slice none 0 0, .int .i64 240]
set_option maxRecDepth 20000 in
set_option maxHeartbeats 2000000 in
theorem stat_run {acc cl mo : Int} {L : List GPosting} {v : Value} {w0 : World} (hr : Rd fGPosting.ty w0 v L) (hl : L.length ≤ 1000000000) :
    CallsR Tryd.prog 36 #[.agg (bkV acc v cl).toArray, .int .i64 mo] w0 (StatR w0 acc cl L mo) := by
  have S := St.start w0
  obtain ⟨A, c, rfl⟩ := hr.len
  have hno : ∀ {r w'}, stOk acc cl L mo = false → r = .tuple #[.slice none 0 0, .int .i64 240] → StatR w0 acc cl L mo r w' := fun h e => by unfold StatR; rw [h, if_neg (by simp)]; exact e
  refine CallsR.mk ?_
  refine calls_enterD Tryd.func36 rfl Tryd.ntmps36 rfl ?_
  refine WD_seq (WD_of ?_)
  repeat' (first | refine WP_region ?_ | refine wl_nil ?_ | (refine g_assign ?_; refine st_assign rfl ?_) | (refine g_box ?_; refine st_valE rfl (r_box S rfl) ?_; rintro _ w ⟨b, rfl, -, S'⟩; replace S := S'; clear S'))
  obtain ⟨b3, rfl⟩ : ∃ x, x = b := ⟨_, rfl⟩
  obtain ⟨b2, rfl⟩ : ∃ x, x = b := ⟨_, rfl⟩
  replace S : St w0 w [.var b2 27 (bkV acc (.slice A L.length c) cl), .var b3 3 [.int .i64 mo]] := S
  refine thenD_normal (WD_seq (WD_of ?_))
  repeat' (first | refine WP_region ?_ | (refine g_load ?_; refine st_val rfl (r_loadVarA (i := 0) S rfl rfl rfl rfl) ?_))
  refine st_callR rfl (r_call1 rfl rfl) (open_run (acc := acc) (cl := cl) (hr.mono S.below) hl) ?_
  rintro r w hb' hR
  unfold OpenR at hR
  cases hT : allT (IntKind.i64.wrap (acc - 1)) L with
  | false =>
    rw [hT, if_neg (by simp)] at hR
    subst hR
    replace S := S.grow hb'
    have e : stOk acc cl L mo = false := by unfold stOk validBk; rw [hT]; rfl
    repeat' (first | refine wl_nil ?_ | (refine g_move ?_; refine st_move rfl ?_) | (refine g_assign ?_; refine st_assign rfl ?_) | (refine g_extract ?_; refine st_val rfl (r_extract rfl rfl) ?_))
    refine thenD_normal (WD_seq (WD_of ?_))
    repeat' (first | refine WP_seq ?_ | refine WP_region ?_ | refine wl_nil ?_ | refine then_normal ?_ | refine WP_ret ?_ | refine WP_condT rfl ?_ | (refine g_guard ?_; refine st_off rfl ?_) | (refine g_move ?_; refine st_move rfl ?_) | (refine g_assign ?_; refine st_assign rfl ?_) | (refine g_pick ?_; refine st_pickT rfl rfl ?_) | (refine g_un ?_; refine st_val rfl (r_not rfl) ?_))
    exact thenD_ret (leaves_marks (fun w' S' => ⟨_, res_tmps2 rfl rfl rfl, _, rfl, S'.below, hno e rfl⟩) [] _ S)
  | true =>
    rw [hT, if_pos rfl] at hR
    obtain ⟨bl, v', rfl, S'⟩ := hR
    replace S := S.join S'
    clear S'
    cases hA : okAC acc cl with
    | false =>
      have e : stOk acc cl L mo = false := by unfold stOk validBk; rw [hA]; simp
      repeat' (first | refine wl_nil ?_ | (refine g_move ?_; refine st_move rfl ?_) | (refine g_assign ?_; refine st_assign rfl ?_) | (refine g_extract ?_; refine st_val rfl (r_extract rfl rfl) ?_))
      refine thenD_normal (WD_seq (WD_of ?_))
      repeat' (first | refine WP_seq ?_ | refine WP_region ?_ | refine wl_nil ?_ | refine then_normal ?_ | refine WP_ret ?_ | refine WP_condT rfl ?_ | (refine g_guard ?_; refine st_off rfl ?_) | (refine g_move ?_; refine st_move rfl ?_) | (refine g_assign ?_; refine st_assign rfl ?_) | (refine g_pick ?_; refine st_pickT rfl rfl ?_) | (refine g_un ?_; refine st_val rfl (r_not rfl) ?_))
      exact thenD_ret (leaves_marks (fun w' S' => ⟨_, res_tmps2 rfl rfl rfl, _, rfl, S'.below, hno e rfl⟩) [] _ S)
    | true =>
    cases hI : inR mo 0 11 with
    | false =>
      have e : stOk acc cl L mo = false := by unfold stOk; rw [hI]; simp
      repeat' (first | refine wl_nil ?_ | (refine g_move ?_; refine st_move rfl ?_) | (refine g_assign ?_; refine st_assign rfl ?_) | (refine g_extract ?_; refine st_val rfl (r_extract rfl rfl) ?_))
      refine thenD_normal (WD_seq (WD_of ?_))
      repeat' (first | refine WP_seq ?_ | refine WP_region ?_ | refine wl_nil ?_ | refine then_normal ?_ | refine WP_ret ?_ | refine WP_condT rfl ?_ | (refine g_move ?_; refine st_move rfl ?_) | (refine g_assign ?_; refine st_assign rfl ?_) | (refine g_pick ?_; refine st_pickF rfl rfl ?_) | (refine g_un ?_; refine st_val rfl (r_not rfl) ?_) | (refine g_load ?_; refine st_val rfl (r_loadVar (i := 1) S rfl rfl rfl) ?_) | (refine g_callV ?_; (refine st_callV rfl (r_call3 rfl rfl rfl rfl) (isIn_is hI) ?_; intro w hb; replace S := S.grow hb; clear hb)))
      exact thenD_ret (leaves_marks (fun w' S' => ⟨_, res_tmps2 rfl rfl rfl, _, rfl, S'.below, hno e rfl⟩) [] _ S)
    | true =>
    have hok : stOk acc cl L mo = true := by unfold stOk validBk; rw [hT, hA, hI]; rfl
    have hll := allT_len hT
    have hac : 2 ≤ acc ∧ acc ≤ 16 := by unfold okAC at hA; rw [Bool.and_eq_true] at hA; exact of_decide_eq_true hA.1
    have hwr : IntKind.i64.wrap (acc - 1) = acc - 1 := wrap_in (by omega) (by omega)
    rw [hwr] at hT
    repeat' (first | refine wl_nil ?_ | (refine g_move ?_; refine st_move rfl ?_) | (refine g_assign ?_; refine st_assign rfl ?_) | (refine g_extract ?_; refine st_val rfl (r_extract rfl rfl) ?_))
    refine thenD_normal (WD_seq (WD_of ?_))
    repeat' (first | refine WP_seq ?_ | refine WP_region ?_ | refine wl_nil ?_ | refine then_normal ?_ | refine WP_skip ?_ | refine WP_condF rfl ?_ | (refine g_move ?_; refine st_move rfl ?_) | (refine g_pick ?_; refine st_pickF rfl rfl ?_) | (refine g_un ?_; refine st_val rfl (r_not rfl) ?_) | (refine g_load ?_; refine st_val rfl (r_loadVar (i := 1) S rfl rfl rfl) ?_) | (refine g_callV ?_; (refine st_callV rfl (r_call3 rfl rfl rfl rfl) (isIn_is hI) ?_; intro w hb; replace S := S.grow hb; clear hb)))
    refine thenD_normal (WD_seq (WD_of ?_))
    repeat' (first | refine WP_region ?_ | refine wl_nil ?_ | (refine g_alloc ?_; refine st_valE rfl (r_alloc S) ?_; rintro _ w ⟨b, rfl, -, S'⟩; replace S := S'; clear S'))
    obtain ⟨b8, rfl⟩ : ∃ x, x = b := ⟨_, rfl⟩
    replace S : St w0 w [.var b2 27 (bkV acc (.slice A L.length c) cl), .var b3 3 [.int .i64 mo], ledO bl acc v' cl L, rowP v' L, .var b8 121 (balC fun _ => 0)] := S
    refine thenD_normal (WD_seq (WD_seq (WD_of ?_)))
    repeat' (first | refine WP_region ?_ | (refine g_move ?_; refine st_move rfl ?_) | (refine g_makeFunc ?_; refine st_val rfl (r_makeFn1 rfl) ?_))
    refine st_callR rfl (r_call2 rfl rfl rfl) (those0_run (gi := 71) (cl := [.pointer (some ⟨b3, 0, none⟩)])) ?_
    rintro _ w hb ⟨c1, c2, rfl, S'⟩
    replace S := S.join S'
    clear S' hb hb'
    repeat' (refine wl_nil ?_)
    refine thenD_normal (WD_block (WD_range S rfl ?_))
    clear S
    intro fn Lp Dk w1 r hrr S
    have hrn : recJ r none = r := by subst hrr; rfl
    have hY : YldA w0 (fun n => [.raw Lp (.loop r), .var b8 121 (balC (balN (isS L mo) L n))]) (isS L mo) L Lp := by
      clear S
      intro n ex w hn hB S ρ d ty pos af g fo a0 ats hf h0
      have hfm := of_decide_eq_true (post_rng hT hn)
      have hbr : ∀ a, -1000000000000000 ≤ balN (isS L mo) L n a ∧ balN (isS L mo) L n a ≤ 1000000000000000 := fun a => by have := balN_rng (isB := isS L mo) hT a n (by omega); omega
      subst hrr
      refine ⟨fn, _, _, _, r_yield1 S (i := 0) rfl hf h0 rfl, ?_⟩
      refine round_WP S rfl rfl rfl (Fr_set _ _ _ _) ?_
      refine WP_has (l := [(8, .pointer (some ⟨b8, 0, none⟩)), (25, .agg (nth L (n : Int)).enc.toArray)]) ⟨rfl, rfl, trivial⟩ ?_
      repeat' (first | refine WP_region ?_ | refine wl_nil ?_ | (refine g_alloc ?_; refine st_valE rfl (r_alloc S) ?_; rintro _ w ⟨b, rfl, -, S'⟩; replace S := S'.front; clear S') | (refine g_store ?_; (refine st_skipE rfl (r_storeVar (i := 0) S rfl rfl rfl rfl (of_decide_eq_true rfl) (of_decide_eq_true rfl)) ?_; intro w S'; replace S := S'; clear S')))
      refine ⟨rfl, _, (show St w0 w (.var b 84 (nth L (n : Int)).enc :: .raw Lp _ :: (.var b8 121 (balC (balN (isS L mo) L n)) :: ex)) from S).perm (List.Perm.swap _ _ _), fun w3 S3 => ?_⟩
      replace S : St w0 w3 (.var b8 121 (balC (balN (isS L mo) L n)) :: .raw Lp _ :: .var b 84 (nth L (n : Int)).enc :: ex) := S3.perm (List.perm_middle (l₁ := [_, _]))
      clear S3
      repeat' (first | refine WP_region ?_ | refine WP_block ?_ | (refine g_load ?_; refine st_val rfl (r_loadVarA (i := 2) S rfl rfl rfl rfl) ?_))
      refine st_callW rfl (r_call2 rfl rfl rfl) (add_run (p := nth L (n : Int)) S (by omega) (by omega) (by omega) (by omega) hbr) ?_
      clear S
      rintro u w S
      refine wl_nil ?_
      refine inB_normal ?_
      refine ⟨none, _, rfl, S.perm (List.Perm.swap _ _ _), fun w5 S5 => ⟨rfl, ?_⟩⟩
      have S6 := S5.sub (.cons_cons _ (.cons_cons _ (.cons _ (List.Sublist.refl _))))
      show St w0 w5 (.raw Lp _ :: .var b8 121 (balC (balN (isS L mo) L (n + 1))) :: ex)
      rw [balN_step hB]
      exact S6
    have S2 := (show St w0 w1 [.raw Lp (.loop r), .raw Dk (.deferred (some [])), .var b2 27 (bkV acc (.slice A L.length c) cl), .var b3 3 [.int .i64 mo], ledO bl acc v' cl L, rowP v' L, .var b8 121 (balC fun _ => 0), .var c1 114 [.pointer (some ⟨bl, 0, none⟩)], .var c2 124 [.func (.func 71) #[] [.pointer (some ⟨b3, 0, none⟩)].toArray]] from S).perm ((List.perm_middle (l₁ := [_, _, _])).trans ((List.perm_middle (l₁ := [_, _, _])).trans ((List.perm_middle (l₁ := [_, _, _])).trans ((List.perm_middle (l₁ := [_, _, _, _, _, _])).trans ((List.perm_middle (l₁ := [_, _, _, _])).trans ((List.perm_middle (l₁ := [_, _, _, _, _, _])).trans ((List.perm_middle (l₁ := [_, _, _, _, _, _])).trans ((List.perm_middle (l₁ := [_, _, _, _, _, _, _, _])).trans (List.perm_middle (l₁ := [_, _, _, _, _, _, _, _]))))))))))
    refine Calls.mono (those_run (base := fun n => [.raw Lp (.loop r), .var b8 121 (balC (balN (isS L mo) L n))]) (ex := [.raw Dk (.deferred (some [])), .var b2 27 (bkV acc (.slice A L.length c) cl), .var b3 3 [.int .i64 mo]]) (gi := 71) (cl := [.pointer (some ⟨b3, 0, none⟩)]) (acc := acc) (c0 := cl) (v := v') hY hll (fun n _ h => by simp only [balN_skip h]) (fun n w hn S => statC_spec (S.var (i := 8) rfl) (by have := of_decide_eq_true (post_rng hT hn); omega)) S2).out ?_
    clear S S2
    rintro e w' ⟨u, rfl, S⟩
    refine ⟨⟨u, rfl⟩, ?_⟩
    refine ⟨none, _, by rw [hrn]; exact S.perm ((List.perm_middle (l₁ := [_])).trans ((List.perm_middle (l₁ := [_])).trans ((List.perm_middle (l₁ := [_, _, _, _, _, _, _, _])).trans ((List.perm_middle (l₁ := [_, _, _, _])).trans ((List.perm_middle (l₁ := [_, _, _, _])).trans ((List.perm_middle (l₁ := [_, _, _, _, _, _, _, _])).trans ((List.perm_middle (l₁ := [_, _, _, _, _, _, _])).trans ((List.perm_middle (l₁ := [_, _, _, _, _, _, _, _])).trans (List.perm_middle (l₁ := [_, _, _, _, _, _, _, _])))))))))), fun w2 S => inBD_normal (thenD_normal (WD_of ?_))⟩
    repeat' (first | refine WP_seq ?_ | refine WP_region ?_)
    refine st_val (v := .agg (balC (balN (isS L mo) L L.length)).toArray) rfl (r_loadVarA (i := 1) S rfl rfl rfl rfl) ?_
    repeat' (first | (refine g_fieldAddr ?_; refine st_val rfl (r_fieldAddrL rfl) ?_) | (refine g_load ?_; refine st_val rfl (r_loadVar (i := 2) S rfl rfl rfl) ?_))
    refine st_callR rfl (r_call2 rfl rfl rfl) (list_run (f := balN (isS L mo) L L.length) hac) ?_
    rintro vr w hb hrow; replace S := S.new hb hrow; clear hb hrow
    repeat' (first | refine wl_nil ?_ | refine then_normal ?_ | refine WP_ret ?_ | (refine g_assign ?_; refine st_assign rfl ?_))
    refine leaves_marks (fun w' S' => ⟨_, res_tmps2 rfl rfl rfl, _, rfl, S'.below, ?_⟩) [Dk] _ S
    unfold StatR
    rw [hok, if_pos rfl]
    exact ⟨vr, rfl, S'.row (i := 7) rfl⟩
def clOk (acc cl : Int) (L : List GPosting) (mo : Int) : Bool := validBk acc cl L && (decide (mo = cl) && inR mo 0 11)
def CloseR (w0 : World) (acc cl : Int) (L : List GPosting) (mo : Int) (r : Value) (w' : World) : Prop :=
  if clOk acc cl L mo = true then BkR w0 acc (mo + 1) L [.int .i64 0] r w' else r = .tuple #[.agg (bkV 0 (.slice none 0 0) 0).toArray, .int .i64 240]
theorem ledC_cl {acc cl x : Int} {v : Value} {f : Nat → Bool} {o : Nat} (ho : o = 2) : splice (ledC acc v cl f) o [.int .i64 x] = ledC acc v x f := by subst ho; rfl
set_option maxHeartbeats 2000000 in
theorem close_run {acc cl mo : Int} {L : List GPosting} {v : Value} {w0 : World} (hr : Rd fGPosting.ty w0 v L) (hl : L.length ≤ 1000000000) :
    CallsR Tryd.prog 35 #[.agg (bkV acc v cl).toArray, .int .i64 mo] w0 (CloseR w0 acc cl L mo) := by
  have S := St.start w0
  obtain ⟨A, c, rfl⟩ := hr.len
  have hno : ∀ {r w'}, clOk acc cl L mo = false → r = .tuple #[.agg (bkV 0 (.slice none 0 0) 0).toArray, .int .i64 240] → CloseR w0 acc cl L mo r w' := fun h e => by unfold CloseR; rw [h, if_neg (by simp)]; exact e
  refine CallsR.mk ?_
  refine calls_enter Tryd.func35 rfl (by intro _ h; first | exact nomatch h.1 | (obtain ⟨_, h, _⟩ := h; exact nomatch h)) Tryd.ntmps35 rfl ?_
  repeat' (first | refine WP_seq ?_ | refine WP_region ?_ | refine wl_nil ?_ | refine then_normal ?_ | (refine g_assign ?_; refine st_assign rfl ?_) | (refine g_load ?_; refine st_val rfl (r_loadVarA (i := 0) S rfl rfl rfl rfl) ?_) | (refine g_box ?_; refine st_valE rfl (r_box S rfl) ?_; rintro _ w ⟨b, rfl, -, S'⟩; replace S := S'; clear S') | (refine g_alloc ?_; refine st_valE rfl (r_alloc S) ?_; rintro _ w ⟨b, rfl, -, S'⟩; replace S := S'; clear S'))
  obtain ⟨b4, rfl⟩ : ∃ x, x = b := ⟨_, rfl⟩
  obtain ⟨b2, rfl⟩ : ∃ x, x = b := ⟨_, rfl⟩
  replace S : St w0 w [.var b2 27 (bkV acc (.slice A L.length c) cl), .var b4 27 (bkV 0 (.slice none 0 0) 0)] := S
  refine st_callR rfl (r_call1 rfl rfl) (open_run (acc := acc) (cl := cl) (hr.mono S.below) hl) ?_
  rintro r w hb' hR
  unfold OpenR at hR
  cases hT : allT (IntKind.i64.wrap (acc - 1)) L with
  | false =>
    rw [hT, if_neg (by simp)] at hR
    subst hR
    replace S := S.grow hb'
    have e : clOk acc cl L mo = false := by unfold clOk validBk; rw [hT]; rfl
    repeat' (first | refine WP_seq ?_ | refine WP_region ?_ | refine wl_nil ?_ | refine then_normal ?_ | refine then_ret ?_ | refine WP_ret ?_ | refine WP_condT rfl ?_ | (refine g_guard ?_; refine st_off rfl ?_) | (refine g_move ?_; refine st_move rfl ?_) | (refine g_assign ?_; refine st_assign rfl ?_) | (refine g_pick ?_; refine st_pickT rfl rfl ?_) | (refine g_build ?_; refine st_val rfl (bd27_ ) ?_) | (refine g_un ?_; refine st_val rfl (r_not rfl) ?_) | (refine g_extract ?_; refine st_val rfl (r_extract rfl rfl) ?_) | (refine g_store ?_; first | (refine st_skipE rfl (r_storeVar (i := 0) S rfl rfl rfl rfl (of_decide_eq_true rfl) (of_decide_eq_true rfl)) ?_; intro w S'; replace S := S'; clear S') | (refine st_skipE rfl (r_storeVar (i := 1) S rfl rfl rfl rfl (of_decide_eq_true rfl) (of_decide_eq_true rfl)) ?_; intro w S'; replace S := S'; clear S')))
    exact endCT rfl rfl rfl S (i := 1) rfl rfl ⟨_, rfl, S.below, hno e rfl⟩
  | true =>
    rw [hT, if_pos rfl] at hR
    obtain ⟨bl, v', rfl, S'⟩ := hR
    replace S := S.join S'
    clear S'
    cases hA : okAC acc cl with
    | false =>
      have e : clOk acc cl L mo = false := by unfold clOk validBk; rw [hA]; simp
      repeat' (first | refine WP_seq ?_ | refine WP_region ?_ | refine wl_nil ?_ | refine then_normal ?_ | refine then_ret ?_ | refine WP_ret ?_ | refine WP_condT rfl ?_ | (refine g_guard ?_; refine st_off rfl ?_) | (refine g_move ?_; refine st_move rfl ?_) | (refine g_assign ?_; refine st_assign rfl ?_) | (refine g_pick ?_; refine st_pickT rfl rfl ?_) | (refine g_build ?_; refine st_val rfl (bd27_ ) ?_) | (refine g_un ?_; refine st_val rfl (r_not rfl) ?_) | (refine g_extract ?_; refine st_val rfl (r_extract rfl rfl) ?_) | (refine g_store ?_; first | (refine st_skipE rfl (r_storeVar (i := 0) S rfl rfl rfl rfl (of_decide_eq_true rfl) (of_decide_eq_true rfl)) ?_; intro w S'; replace S := S'; clear S') | (refine st_skipE rfl (r_storeVar (i := 1) S rfl rfl rfl rfl (of_decide_eq_true rfl) (of_decide_eq_true rfl)) ?_; intro w S'; replace S := S'; clear S')))
      exact endCT rfl rfl rfl S (i := 1) rfl rfl ⟨_, rfl, S.below, hno e rfl⟩
    | true =>
    by_cases hm : mo = cl
    · cases hI : inR mo 0 11 with
      | false =>
        have e : clOk acc cl L mo = false := by unfold clOk; rw [hI]; simp
        repeat' (first | refine WP_seq ?_ | refine WP_region ?_ | refine wl_nil ?_ | refine then_normal ?_ | refine then_ret ?_ | refine WP_ret ?_ | refine WP_condT rfl ?_ | (refine g_move ?_; refine st_move rfl ?_) | (refine g_assign ?_; refine st_assign rfl ?_) | (refine g_pick ?_; refine st_pickF rfl rfl ?_) | (refine g_b_neq ?_; refine st_val rfl (r_neq rfl rfl) ?_) | (refine g_build ?_; refine st_val rfl (bd27_ ) ?_) | (refine g_un ?_; refine st_val rfl (r_not rfl) ?_) | (refine g_extract ?_; refine st_val rfl (r_extract rfl rfl) ?_) | (refine g_fieldAddr ?_; refine st_val rfl (r_fieldAddrL rfl) ?_) | (refine g_load ?_; refine st_val rfl (r_loadVar (i := 0) S rfl rfl rfl) ?_) | (refine g_callV ?_; (refine st_callV rfl (r_call3 rfl rfl rfl rfl) (isIn_is hI) ?_; intro w hb; replace S := S.grow hb; clear hb)) | (refine g_store ?_; first | (refine st_skipE rfl (r_storeVar (i := 0) S rfl rfl rfl rfl (of_decide_eq_true rfl) (of_decide_eq_true rfl)) ?_; intro w S'; replace S := S'; clear S') | (refine st_skipE rfl (r_storeVar (i := 1) S rfl rfl rfl rfl (of_decide_eq_true rfl) (of_decide_eq_true rfl)) ?_; intro w S'; replace S := S'; clear S')) | (refine wl_split rfl rfl (fun h => ?_) (fun h => ?_) <;> (fail_if_success (have hh : true = true := h)) <;> (fail_if_success (have hh : false = false := h)) <;> (try simp only [decide_eq_true_eq, decide_eq_false_iff_not, Bool.not_eq_true', Bool.not_eq_false', Int.not_lt, Int.not_le] at h) <;> (try (exfalso; omega)) <;> (try (exfalso; omega; done))))
        exact endCT rfl rfl rfl S (i := 1) rfl rfl ⟨_, rfl, S.below, hno e rfl⟩
      | true =>
        have hmr : 0 ≤ mo ∧ mo ≤ 11 := of_decide_eq_true hI
        have e : clOk acc cl L mo = true := by unfold clOk validBk; rw [hT, hA, hI, decide_eq_true hm]; rfl
        obtain ⟨A2, c2, hz⟩ := (S.rdRow (D := fGPosting) (i := 3) rfl).len; subst hz
        repeat' (first | refine WP_seq ?_ | refine WP_region ?_ | refine wl_nil ?_ | refine then_normal ?_ | refine WP_skip ?_ | refine WP_condF rfl ?_ | (refine g_move ?_; refine st_move rfl ?_) | (refine g_assign ?_; refine st_assign rfl ?_) | (refine g_pick ?_; refine st_pickF rfl rfl ?_) | (refine g_b_add ?_; (refine st_val rfl (r_addN rfl rfl ?_ ?_) ?_; (first | omega | (simp <;> omega)); (first | omega | (simp <;> omega)))) | (refine g_b_neq ?_; refine st_val rfl (r_neq rfl rfl) ?_) | (refine g_nilCheck ?_; refine st_val rfl (r_nilCheck rfl) ?_) | (refine g_un ?_; refine st_val rfl (r_not rfl) ?_) | (refine g_extract ?_; refine st_val rfl (r_extract rfl rfl) ?_) | (refine g_fieldAddr ?_; refine st_val rfl (r_fieldAddrL rfl) ?_) | (refine g_load ?_; refine st_val rfl (r_loadVar (i := 0) S rfl rfl rfl) ?_) | (refine g_callV ?_; (refine st_callV rfl (r_call3 rfl rfl rfl rfl) (isIn_is hI) ?_; intro w hb; replace S := S.grow hb; clear hb)) | (refine wl_split rfl rfl (fun h => ?_) (fun h => ?_) <;> (fail_if_success (have hh : true = true := h)) <;> (fail_if_success (have hh : false = false := h)) <;> (try simp only [decide_eq_true_eq, decide_eq_false_iff_not, Bool.not_eq_true', Bool.not_eq_false', Int.not_lt, Int.not_le] at h) <;> (try (exfalso; omega)) <;> (try (exfalso; omega; done))))
        refine st_skipE rfl (r_storeVar (i := 2) (size := 1) S rfl rfl rfl rfl (by rw [ledC_len]; decide) (of_decide_eq_true rfl)) ?_
        intro w S'
        have S2 : St w0 w [.var b2 27 (bkV acc (.slice A L.length c) cl), .var b4 27 (bkV 0 (.slice none 0 0) 0), .var bl 119 (splice (ledC acc (.slice A2 L.length c2) cl (bkN L)) 2 [.int .i64 (mo + 1)]), rowP (.slice A2 L.length c2) L] := S'
        rw [ledC_cl rfl] at S2
        clear S S'
        have S := S2
        clear S2
        repeat' (first | refine WP_seq ?_ | refine WP_region ?_ | refine wl_nil ?_ | refine then_normal ?_ | refine WP_ret ?_ | (refine g_move ?_; refine st_move rfl ?_) | (refine g_assign ?_; refine st_assign rfl ?_) | (refine g_nilCheck ?_; refine st_val rfl (r_nilCheck rfl) ?_) | (refine g_fieldAddr ?_; refine st_val rfl (r_fieldAddrL rfl) ?_) | (refine g_load ?_; refine st_val rfl (r_loadVarA (i := 2) S rfl rfl rfl rfl) ?_) | (refine g_store ?_; first | (refine st_skipE rfl (r_storeVar (i := 0) S rfl rfl rfl rfl (of_decide_eq_true rfl) (of_decide_eq_true rfl)) ?_; intro w S'; replace S := S'; clear S') | (refine st_skipE rfl (r_storeVar (i := 1) S rfl rfl rfl rfl (of_decide_eq_true rfl) (of_decide_eq_true rfl)) ?_; intro w S'; replace S := S'; clear S') | (refine st_skipE rfl (r_storeVar (i := 2) S rfl rfl rfl rfl (of_decide_eq_true rfl) (of_decide_eq_true rfl)) ?_; intro w S'; replace S := S'; clear S')))
        refine endCT rfl rfl rfl S (i := 1) rfl rfl ⟨_, rfl, S.below, ?_⟩
        unfold CloseR
        rw [e, if_pos rfl]
        exact ⟨_, rfl, S.keep [false, false, false, true]⟩
    · have e : clOk acc cl L mo = false := by unfold clOk; rw [decide_eq_false hm]; simp
      repeat' (first | refine WP_seq ?_ | refine WP_region ?_ | refine wl_nil ?_ | refine then_normal ?_ | refine then_ret ?_ | refine WP_ret ?_ | refine WP_condT rfl ?_ | (refine g_guard ?_; refine st_off rfl ?_) | (refine g_move ?_; refine st_move rfl ?_) | (refine g_assign ?_; refine st_assign rfl ?_) | (refine g_pick ?_; first | refine st_pickT rfl rfl ?_ | refine st_pickF rfl rfl ?_) | (refine g_b_neq ?_; refine st_val rfl (r_neq rfl rfl) ?_) | (refine g_build ?_; refine st_val rfl (bd27_ ) ?_) | (refine g_un ?_; refine st_val rfl (r_not rfl) ?_) | (refine g_extract ?_; refine st_val rfl (r_extract rfl rfl) ?_) | (refine g_fieldAddr ?_; refine st_val rfl (r_fieldAddrL rfl) ?_) | (refine g_load ?_; refine st_val rfl (r_loadVar (i := 0) S rfl rfl rfl) ?_) | (refine g_store ?_; first | (refine st_skipE rfl (r_storeVar (i := 0) S rfl rfl rfl rfl (of_decide_eq_true rfl) (of_decide_eq_true rfl)) ?_; intro w S'; replace S := S'; clear S') | (refine st_skipE rfl (r_storeVar (i := 1) S rfl rfl rfl rfl (of_decide_eq_true rfl) (of_decide_eq_true rfl)) ?_; intro w S'; replace S := S'; clear S')) | (refine wl_split rfl rfl (fun h => ?_) (fun h => ?_) <;> (fail_if_success (have hh : true = true := h)) <;> (fail_if_success (have hh : false = false := h)) <;> (try simp only [decide_eq_true_eq, decide_eq_false_iff_not, Bool.not_eq_true', Bool.not_eq_false', Int.not_lt, Int.not_le] at h) <;> (try (exfalso; omega)) <;> (try (exfalso; omega; done))))
      all_goals exact endCT rfl rfl rfl S (i := 1) rfl rfl ⟨_, rfl, S.below, hno e rfl⟩
end Go.Proofs.YtijnbpnficcpmaaDoor
/- BillKeeps. -/
namespace Go.Proofs.YtijnbpnficcpmaaDoor
open Go Go.Gx Go.RowKit
set_option linter.unusedVariables false
set_option linter.unusedSimpArgs false

theorem balN_old {E F : List GPosting} {mo : Int} {a : Nat} : ∀ {n : Nat}, n ≤ E.length → balN (isS (E ++ F) mo) (E ++ F) n a = balN (isS E mo) E n a := fun {n} hn => by
  unfold balN
  refine sumN_congr fun k hk => ?_
  unfold isS
  rw [nth_app (by omega) (by omega)]
theorem balN_new {E F : List GPosting} {mo day : Int} {a : Nat} (hF : ∀ q ∈ F, q.Day = day) (hd : 30 * (mo + 1) ≤ day) : ∀ k : Nat, k ≤ F.length → balN (isS (E ++ F) mo) (E ++ F) (E.length + k) a = balN (isS E mo) E E.length a
  | 0, _ => balN_old (Nat.le_refl _)
  | k + 1, hk => by
    have hno : isS (E ++ F) mo (E.length + k) = false := by
      have hg := nth_get (l := E ++ F) (i := ((E.length + k : Nat) : Int)) (by omega) (by rw [List.length_append]; omega)
      rw [Int.toNat_natCast, List.getElem?_append_right (by omega)] at hg
      have hm := hF _ (List.mem_of_getElem? hg)
      unfold isS
      rw [hm, decide_eq_false_iff_not]
      omega
    rw [show E.length + (k + 1) = (E.length + k) + 1 by omega, balN_skip hno]
    exact balN_new hF hd k (by omega)
theorem stat_same {E F : List GPosting} {mo day : Int} (hF : ∀ q ∈ F, q.Day = day) (hd : 30 * (mo + 1) ≤ day) : tab (balN (isS (E ++ F) mo) (E ++ F) (E ++ F).length) 6 = tab (balN (isS E mo) E E.length) 6 :=
  tab_ext fun a _ => by rw [List.length_append]; exact balN_new hF hd F.length (Nat.le_refl _)
theorem stat_is {cl mo : Int} {L : List GPosting} {v : Value} {r : List Int} {w0 : World} (hv : validBk 6 cl L = true) (hm : 0 ≤ mo ∧ mo ≤ 11) (hrr : tab (balN (isS L mo) L L.length) 6 = r) (hr : Rd fGPosting.ty w0 v L) (hl : L.length ≤ 1000000000) :
    CallsR Tryd.prog 36 #[.agg (bkV 6 v cl).toArray, .int .i64 mo] w0 (RowE w0 (r, 0)) := callsR_mono (stat_run hr hl) fun u w' h => by
  unfold StatR stOk at h
  rw [hv, show inR mo 0 11 = true from decide_eq_true hm, Bool.true_and, if_pos rfl] at h
  obtain ⟨v', rfl, hrow⟩ := h
  rw [show Int.toNat 6 = 6 from rfl, hrr] at hrow
  exact ⟨v', rfl, hrow⟩
theorem close_is {cl : Int} {L : List GPosting} {v : Value} {w0 : World} (hv : validBk 6 cl L = true) (hm : 0 ≤ cl ∧ cl ≤ 11) (hr : Rd fGPosting.ty w0 v L) (hl : L.length ≤ 1000000000) :
    CallsR Tryd.prog 35 #[.agg (bkV 6 v cl).toArray, .int .i64 cl] w0 (BkR w0 6 (cl + 1) L [.int .i64 0]) := callsR_mono (close_run hr hl) fun u w' h => by
  unfold CloseR clOk at h
  rw [hv, show inR cl 0 11 = true from decide_eq_true hm, decide_eq_true rfl, Bool.true_and, Bool.true_and, if_pos rfl] at h
  exact h
theorem valid_cl {cl cl' : Int} {L : List GPosting} (h : validBk 6 cl L = true) (hc : 0 ≤ cl' ∧ cl' ≤ 12) : validBk 6 cl' L = true := by
  unfold validBk okAC at h ⊢
  simp only [Bool.and_eq_true] at h ⊢
  exact ⟨h.1, h.2.1, decide_eq_true hc⟩
theorem sameB_of {ac cc cl : Int} {E1 L : List GPosting} {v v2 : Value} {w0 : World} (h : ac = 6 ∧ cc = cl ∧ E1 = L) (hr : Rd fGPosting.ty w0 v E1) (hr2 : Rd fGPosting.ty w0 v2 L) (hl : L.length ≤ 1000000000) :
    CallsV Tryd.prog 24 #[.agg (bkV ac v cc).toArray, .agg (bkV 6 v2 cl).toArray] w0 (.bool true) := by
  obtain ⟨rfl, rfl, rfl⟩ := h
  exact sameB_spec hr hr2 hl
set_option maxRecDepth 20000 in
set_option maxHeartbeats 8000000 in
theorem lawKeeps_spec {vx vy vz : Value} {xs : List GArr8Int} {ys zs : List GArr2Int} {one two : Int} {w0 : World} (hG : TblAt w0) (hr1 : Rd fGArr8Int.ty w0 vx xs) (hx : ∀ x ∈ xs, okA8 x) (hxl : xs.length ≤ maxLen) (hr2 : Rd fGArr2Int.ty w0 vy ys) (hy : ∀ y ∈ ys, okA2 y) (hyl : ys.length ≤ maxLen) (hr3 : Rd fGArr2Int.ty w0 vz zs) (hz : ∀ y ∈ zs, okA2 y) (hzl : zs.length ≤ maxLen) (h1 : inI one) (h2 : inI two) :
    CallsV Tryd.prog 9 #[vx, vy, vz, .int .i64 one, .int .i64 two] w0 (.bool true) := by
  have S := St.start w0
  refine CallsV.mk ?_
  refine calls_enter Tryd.func9 rfl (by intro _ h; first | exact nomatch h.1 | (obtain ⟨_, h, _⟩ := h; exact nomatch h)) Tryd.ntmps9 rfl ?_
  repeat' (first | refine WP_seq ?_ | refine WP_region ?_ | refine wl_nil ?_ | refine then_normal ?_ | refine WP_skip ?_ | refine WP_condF rfl ?_ | (refine g_move ?_; refine st_move rfl ?_) | (refine g_assign ?_; refine st_assign rfl ?_) | (refine g_un ?_; refine st_val rfl (r_not rfl) ?_) | (refine g_callV ?_; (refine st_callV rfl (r_call0 rfl) (sane_spec (hG.mono S.below)) ?_; intro w hb; replace S := S.grow hb; clear hb)))
  refine st_callR rfl (r_call1 rfl rfl) (made_run (hr1.mono S.below) hx hxl) ?_; rintro vL w hb hrow; replace S := S.new hb hrow; clear hb hrow
  obtain ⟨l, hl⟩ : ∃ l, madeL xs = l := ⟨_, rfl⟩
  have hvl : validC l = true := by rw [← hl]; exact madeL_ok xs
  have hll : l.length ≤ 8 := by rw [← hl]; exact madeL_len xs
  have hco : CoOk l := ⟨hvl, hll, fun c hc => made_spon (xs := xs) (by rw [hl]; exact hc)⟩
  rw [hl] at S
  obtain ⟨AL, cL, hz2⟩ := (S.rdRow (D := fGContract) (i := 0) rfl).len; subst hz2
  obtain ⟨d, hde⟩ : ∃ d, pickI one 330 = d := ⟨_, rfl⟩
  have hdr := pickI_range (c := one) (n := 330) (by omega)
  rw [hde] at hdr
  obtain ⟨M, hM⟩ : ∃ M, d / 30 + 1 = M := ⟨_, rfl⟩
  have hMr : 1 ≤ M ∧ M ≤ 11 ∧ d < 30 * M := by omega
  obtain ⟨t, hte⟩ : ∃ t, pickI two (360 - M * 30) = t := ⟨_, rfl⟩
  have htr := pickI_range (c := two) (n := 360 - M * 30) (by omega)
  rw [hte] at htr
  obtain ⟨sp, hsp⟩ : ∃ sp, spotsL l ys = sp := ⟨_, rfl⟩
  have hok : okI l sp = true := by unfold okI; rw [hvl, ← hsp, spotsL_ok hvl ys]; rfl
  have hpl : sp.length ≤ 24 := by rw [← hsp]; exact spotsL_len l ys
  obtain ⟨sz, hsz⟩ : ∃ sz, spotsL l zs = sz := ⟨_, rfl⟩
  have hokz : okI l sz = true := by unfold okI; rw [hvl, ← hsz, spotsL_ok hvl zs]; rfl
  have hpz : sz.length ≤ 24 := by rw [← hsz]; exact spotsL_len l zs
  obtain ⟨E, e1, e1l, e1d, -, hS⟩ := (sett_nil (l := l)).next hco hok (day := d) (by simp) (by omega) (by omega) (fun q h => by cases h)
  rw [List.nil_append] at e1 hS
  have hSM : Sett l (dueC (cntS l sp)) M E := ⟨valid_cl hS.val (by omega), hS.ch⟩
  obtain ⟨F, e2, e2l, e2d, -, hS2⟩ := hSM.next hco hokz (day := M * 30 + t) (by omega) (by omega) (by omega) (fun q h => by rw [e1d q h]; omega)
  obtain ⟨L2, hL2⟩ : ∃ L2, E ++ F = L2 := ⟨_, rfl⟩
  have hL2l : L2.length = E.length + F.length := by rw [← hL2, List.length_append]
  rw [hL2] at e2 hS2
  have hearly : ∀ L', setI 6 M E l sz d = some L' → L' = E := fun L' h => by
    unfold setI at h
    split at h
    · exact setL_closed (by omega) h
    · cases h
  repeat' (first | refine WP_seq ?_ | refine WP_region ?_ | refine wl_nil ?_ | refine then_normal ?_ | (refine g_move ?_; refine st_move rfl ?_) | (refine g_assign ?_; refine st_assign rfl ?_) | (refine g_build ?_; refine st_val rfl (bd27_0 rfl) ?_) | (refine g_callV ?_; (refine st_callV rfl (r_call2 rfl rfl rfl) (pick_is hde h1.1 h1.2 (by omega)) ?_; intro w hb; replace S := S.grow hb; clear hb)))
  refine st_callR rfl (r_call2 rfl rfl rfl) (spots_run (S.rdRow (D := fGContract) (i := 0) rfl) (hr2.mono S.below) hy (by omega) hyl) ?_; rintro vP w hb hrow; replace S := S.new hb hrow; clear hb hrow
  rw [hsp] at S
  repeat' ((refine g_move ?_; refine st_move rfl ?_))
  refine st_callR rfl (r_call4 rfl rfl rfl rfl rfl) (settle_some e1 (Rd.nil _ _) (S.rdRow (D := fGContract) (i := 0) rfl) (S.rdRow (D := fGSpot) (i := 1) rfl) (by simp) (by omega) (by omega) (hG.mono S.below)) ?_
  rintro _ w hb ⟨vb, rfl, S'⟩; obtain ⟨AB, cB, hz2⟩ := (S'.rdRow (D := fGPosting) (i := 0) rfl).len; subst hz2; replace S := S.join S'; clear hb S'
  repeat' (first | refine WP_seq ?_ | refine WP_region ?_ | refine wl_nil ?_ | refine then_normal ?_ | refine WP_skip ?_ | refine WP_block ?_ | refine WP_condF rfl ?_ | (refine g_move ?_; refine st_move rfl ?_) | (refine g_assign ?_; refine st_assign rfl ?_) | (refine g_b_add ?_; (refine st_val rfl (r_addN rfl rfl ?_ ?_) ?_; (first | omega | (simp <;> omega)); (first | omega | (simp <;> omega)))) | (refine g_b_quo ?_; (refine st_val rfl (r_quoN rfl rfl ?_ ?_ ?_) ?_; (first | omega | (simp <;> omega)); (first | omega | (simp <;> omega)); (first | omega | (simp <;> omega)))) | (refine g_b_neq ?_; refine st_val rfl (r_neq rfl rfl) ?_) | (refine g_extract ?_; refine st_val rfl (r_extract rfl rfl) ?_) | (refine g_alloc ?_; refine st_valE rfl (r_alloc S) ?_; rintro _ w ⟨b, rfl, -, S'⟩; replace S := S'; clear S') | (refine g_store ?_; first | (refine st_skipE rfl (r_storeVar (i := 0) S rfl rfl rfl rfl (of_decide_eq_true rfl) (of_decide_eq_true rfl)) ?_; intro w S'; replace S := S'; clear S') | (refine st_skipE rfl (r_storeVar (i := 1) S rfl rfl rfl rfl (of_decide_eq_true rfl) (of_decide_eq_true rfl)) ?_; intro w S'; replace S := S'; clear S') | (refine st_skipE rfl (r_storeVar (i := 2) S rfl rfl rfl rfl (of_decide_eq_true rfl) (of_decide_eq_true rfl)) ?_; intro w S'; replace S := S'; clear S') | (refine st_skipE rfl (r_storeVar (i := 3) S rfl rfl rfl rfl (of_decide_eq_true rfl) (of_decide_eq_true rfl)) ?_; intro w S'; replace S := S'; clear S')))
  obtain ⟨b14, rfl⟩ : ∃ x, x = b := ⟨_, rfl⟩
  replace S : St w0 w [rowOb fGContract 70 (.slice AL l.length cL) l, .var b14 27 (bkV 6 (.slice AB E.length cB) 0), rowP (.slice AB E.length cB) E] := (show St w0 w [rowOb fGContract 70 (.slice AL l.length cL) l, rowOb fGSpot 63 vP sp, rowP (.slice AB E.length cB) E, .var b14 27 (bkV 6 (.slice AB E.length cB) 0)] from S).keep [true, false, true, true] |>.perm (List.Perm.cons _ (List.Perm.swap _ _ _))
  skip
  simp only [hM]
  refine WP_loop (fun m σ w1 => ∃ (i : Int) (AB : Option Addr) (cB : Nat), Has σ [(2, vz), (4, .int .i64 two), (12, .slice AL l.length cL), (13, .int .i64 d), (14, .pointer (some ⟨b14, 0, none⟩)), (16, .int .i64 M), (17, .int .i64 i)] ∧ St w0 w1 [rowOb fGContract 70 (.slice AL l.length cL) l, .var b14 27 (bkV 6 (.slice AB E.length cB) i), rowP (.slice AB E.length cB) E] ∧ 0 ≤ i ∧ i ≤ M ∧ m = M.toNat - i.toNat) M.toNat ⟨0, AB, cB, ⟨rfl, rfl, rfl, rfl, rfl, rfl, rfl, trivial⟩, S, by omega, by omega, by omega⟩ ?_
  clear S
  rintro m σ w1 ⟨i, AB, cB, hs, S, hi0, hi1, hm⟩
  refine WP_has hs ?_
  by_cases hi : i < M
  · repeat' (first | refine WP_seq ?_ | refine WP_region ?_ | refine wl_nil ?_ | refine then_normal ?_ | refine WP_skip ?_ | refine WP_block ?_ | (refine g_move ?_; refine st_move rfl ?_) | (refine g_b_lss ?_; refine st_val rfl (r_lss rfl rfl) ?_) | (refine g_load ?_; refine st_val rfl (r_loadVarA (i := 1) S rfl rfl rfl rfl) ?_) | (refine WP_cond rfl (fun h => ?_) (fun h => ?_) <;> (fail_if_success (have hh : true = true := h)) <;> (fail_if_success (have hh : false = false := h)) <;> (try simp only [decide_eq_true_eq, decide_eq_false_iff_not, Bool.not_eq_true', Bool.not_eq_false', Int.not_lt, Int.not_le] at h) <;> (try (exfalso; omega))))
    refine st_callR rfl (r_call2 rfl rfl rfl) (close_is (valid_cl hS.val (by omega)) (by omega) (S.rdRow (D := fGPosting) (i := 2) rfl) (by omega)) ?_
    rintro _ w hb ⟨vb, rfl, S'⟩; obtain ⟨A2, c2, hz2⟩ := (S'.rdRow (D := fGPosting) (i := 0) rfl).len; subst hz2; replace S := S.join S'; clear hb S'
    repeat' (first | refine WP_seq ?_ | refine WP_region ?_ | refine wl_nil ?_ | refine then_normal ?_ | refine inB_normal ?_ | refine WP_skip ?_ | refine WP_condF rfl ?_ | (refine g_move ?_; refine st_move rfl ?_) | (refine g_assign ?_; refine st_assign rfl ?_) | (refine g_b_add ?_; (refine st_val rfl (r_addN rfl rfl ?_ ?_) ?_; (first | omega | (simp <;> omega)); (first | omega | (simp <;> omega)))) | (refine g_b_neq ?_; refine st_val rfl (r_neq rfl rfl) ?_) | (refine g_extract ?_; refine st_val rfl (r_extract rfl rfl) ?_) | (refine g_load ?_; refine st_val rfl (r_loadVarA (i := 4) S rfl rfl rfl rfl) ?_) | (refine g_alloc ?_; refine st_valE rfl (r_alloc S) ?_; rintro _ w ⟨b, rfl, -, S'⟩; replace S := S'; clear S') | (refine g_store ?_; first | (refine st_skipE rfl (r_storeVar (i := 0) S rfl rfl rfl rfl (of_decide_eq_true rfl) (of_decide_eq_true rfl)) ?_; intro w S'; replace S := S'; clear S') | (refine st_skipE rfl (r_storeVar (i := 1) S rfl rfl rfl rfl (of_decide_eq_true rfl) (of_decide_eq_true rfl)) ?_; intro w S'; replace S := S'; clear S') | (refine st_skipE rfl (r_storeVar (i := 2) S rfl rfl rfl rfl (of_decide_eq_true rfl) (of_decide_eq_true rfl)) ?_; intro w S'; replace S := S'; clear S') | (refine st_skipE rfl (r_storeVar (i := 3) S rfl rfl rfl rfl (of_decide_eq_true rfl) (of_decide_eq_true rfl)) ?_; intro w S'; replace S := S'; clear S') | (refine st_skipE rfl (r_storeVar (i := 4) S rfl rfl rfl rfl (of_decide_eq_true rfl) (of_decide_eq_true rfl)) ?_; intro w S'; replace S := S'; clear S')))
    refine ⟨⟨_, ?_, i + 1, A2, c2, ⟨rfl, rfl, rfl, rfl, rfl, rfl, rfl, trivial⟩, S.keep [true, true, false, true], by omega, by omega, rfl⟩⟩
    omega
  obtain rfl : M = i := by omega
  clear hi hm
  have hvM : validBk 6 M E = true := hSM.val
  repeat' (first | refine WP_seq ?_ | refine WP_region ?_ | refine wl_nil ?_ | refine then_normal ?_ | refine then_exit ?_ | refine inB_here ?_ | refine WP_exit ?_ | (refine g_move ?_; refine st_move rfl ?_) | (refine g_assign ?_; refine st_assign rfl ?_) | (refine g_b_add ?_; (refine st_val rfl (r_addN rfl rfl ?_ ?_) ?_; (first | omega | (simp <;> omega)); (first | omega | (simp <;> omega)))) | (refine g_b_sub ?_; (refine st_val rfl (r_subN rfl rfl ?_ ?_) ?_; (first | omega | (simp <;> omega)); (first | omega | (simp <;> omega)))) | (refine g_b_mul ?_; (refine st_val rfl (r_mulN rfl rfl ?_ ?_) ?_; (first | omega | (simp <;> omega)); (first | omega | (simp <;> omega)))) | (refine g_b_lss ?_; refine st_val rfl (r_lss rfl rfl) ?_) | (refine g_callV ?_; (refine st_callV rfl (r_call2 rfl rfl rfl) (pick_is hte h2.1 h2.2 (by omega)) ?_; intro w hb; replace S := S.grow hb; clear hb)) | (refine WP_cond rfl (fun h => ?_) (fun h => ?_) <;> (fail_if_success (have hh : true = true := h)) <;> (fail_if_success (have hh : false = false := h)) <;> (try simp only [decide_eq_true_eq, decide_eq_false_iff_not, Bool.not_eq_true', Bool.not_eq_false', Int.not_lt, Int.not_le] at h) <;> (try (exfalso; omega)) <;> (try (exfalso; omega; done))))
  obtain ⟨th, hth⟩ : ∃ th, M * 30 + t = th := ⟨_, rfl⟩
  rw [hth] at e2 e2d
  simp only [hth]
  refine WP_then_cut (fun σ w1 => ∃ (ge ac cc : Int) (E1 : List GPosting) (A1 : Option Addr) (c1 b21 : Nat), Has σ [(2, vz), (4, .int .i64 two), (12, .slice AL l.length cL), (13, .int .i64 d), (14, .pointer (some ⟨b14, 0, none⟩)), (16, .int .i64 M), (20, .int .i64 th), (21, .pointer (some ⟨b21, 0, none⟩)), (22, .int .i64 ge)] ∧ St w0 w1 [rowOb fGContract 70 (.slice AL l.length cL) l, .var b14 27 (bkV 6 (.slice AB E.length cB) M), rowP (.slice AB E.length cB) E, rowP (.slice A1 E1.length c1) E1, .var b21 27 (bkV ac (.slice A1 E1.length c1) cc)] ∧ (ge = 0 → ac = 6 ∧ cc = M ∧ E1 = E) ∧ (ge = 0 ∨ ge = 390)) ?_ ?_
  · cases hE : setI 6 M E l sz d with
    | none =>
      refine WP_drawU (fun w' => St w0 w' [rowOb fGContract 70 (.slice AL l.length cL) l, .var b14 27 (bkV 6 (.slice AB E.length cB) M), rowP (.slice AB E.length cB) E]) (.vals [0, 1, 2, 3, 5] (.two 4 (.two 6 (.vals [7, 8, 9] (.one 10 (.one 11 (.vals [12] .fin)))) 10 (.one 6 (.vals [7, 8, 9] (.one 11 (.vals [12] .fin))))) 10 (.one 4 (.one 6 (.vals [7, 8, 9] (.one 11 (.vals [12] .fin))))))) (by kernel_rfl) (by decide) (by decide +kernel) (fun w' hb => S.grow hb) ?_
      intro w' hb; replace S := S.grow hb; clear hb
      refine wu_vals ?_
      repeat' (first | refine jq_nil ?_ | (refine gj_move ?_; refine jq_val rfl (fun w' hJ => ⟨rfl⟩) ?_) | (refine gj_assign ?_; refine jq_val rfl (fun w' hJ => ⟨rfl⟩) ?_) | (refine jq_val rfl (fun w' hJ => r_loadVarA (i := 1) hJ rfl rfl rfl rfl) ?_))
      refine wu_two ?_ ?_
      · refine kq_callR rfl (r_call2 rfl rfl rfl) (spots_run (S.rdRow (D := fGContract) (i := 0) rfl) (hr3.mono S.below) hz (by omega) hzl) ?_; rintro vZ w hb hrow; rw [hsz] at hrow; replace S := S.new hb hrow; clear hb hrow; refine ⟨S.keep [true, true, true], ?_⟩
        refine wu_two ?_ ?_
        · refine kq_callR rfl (r_call4 rfl rfl rfl rfl rfl) (settle_none hE (S.rdRow (D := fGPosting) (i := 2) rfl) (S.rdRow (D := fGContract) (i := 0) rfl) (S.rdRow (D := fGSpot) (i := 3) rfl) (by omega) (by omega) (by omega) (hG.mono S.below)) ?_; rintro _ w hb rfl; replace S := (S.grow hb).nilRow fGPosting 84; clear hb; refine ⟨S.keep [true, true, true], ?_⟩
          refine wu_vals ?_; refine jq_val rfl (fun w' hJ => ⟨rfl⟩) ?_; refine jq_val rfl (fun w' hJ => r_extract rfl rfl) ?_; refine jq_val rfl (fun w' hJ => r_extract rfl rfl) ?_; refine jq_nil ?_
          refine wu_one ?_; refine kq_valE rfl (r_alloc S) ?_; rintro _ w ⟨b21, rfl, -, S'⟩; replace S := S'; clear S'; refine ⟨S.keep [true, true, true], ?_⟩
          refine wu_one ?_; refine kq_skipE rfl (r_storeVar (i := 5) S rfl rfl rfl rfl (of_decide_eq_true rfl) (of_decide_eq_true rfl)) ?_; intro w S'; replace S := S'; clear S'; refine ⟨S.keep [true, true, true], ?_⟩
          refine wu_vals ?_; refine jq_val rfl (fun w' hJ => ⟨rfl⟩) ?_; refine jq_nil ?_; refine wu_fin ?_; refine calm_normal ?_; exact ⟨390, 0, 0, [], none, 0, b21, ⟨rfl, rfl, rfl, rfl, rfl, rfl, rfl, rfl, rfl, trivial⟩, S.keep [true, true, true, false, true, true], fun h => by omega, .inr rfl⟩
        · refine kq_valE rfl (r_alloc S) ?_; rintro _ w ⟨b21, rfl, -, S'⟩; replace S := S'; clear S'; refine ⟨S.keep [true, true, true], ?_⟩
          refine wu_one ?_; refine kq_callR rfl (r_call4 rfl rfl rfl rfl rfl) (settle_none hE (S.rdRow (D := fGPosting) (i := 2) rfl) (S.rdRow (D := fGContract) (i := 0) rfl) (S.rdRow (D := fGSpot) (i := 3) rfl) (by omega) (by omega) (by omega) (hG.mono S.below)) ?_; rintro _ w hb rfl; replace S := (S.grow hb).nilRow fGPosting 84; clear hb; refine ⟨S.keep [true, true, true], ?_⟩
          refine wu_vals ?_; refine jq_val rfl (fun w' hJ => ⟨rfl⟩) ?_; refine jq_val rfl (fun w' hJ => r_extract rfl rfl) ?_; refine jq_val rfl (fun w' hJ => r_extract rfl rfl) ?_; refine jq_nil ?_
          refine wu_one ?_; refine kq_skipE rfl (r_storeVar (i := 4) S rfl rfl rfl rfl (of_decide_eq_true rfl) (of_decide_eq_true rfl)) ?_; intro w S'; replace S := S'; clear S'; refine ⟨S.keep [true, true, true], ?_⟩
          refine wu_vals ?_; refine jq_val rfl (fun w' hJ => ⟨rfl⟩) ?_; refine jq_nil ?_; refine wu_fin ?_; refine calm_normal ?_; exact ⟨390, 0, 0, [], none, 0, b21, ⟨rfl, rfl, rfl, rfl, rfl, rfl, rfl, rfl, rfl, trivial⟩, (S.keep [true, true, true, false, true, true]).perm (List.Perm.append_left [_, _, _] (List.perm_middle (l₁ := [_]))), fun h => by omega, .inr rfl⟩
      · refine kq_valE rfl (r_alloc S) ?_; rintro _ w ⟨b21, rfl, -, S'⟩; replace S := S'; clear S'; refine ⟨S.keep [true, true, true], ?_⟩
        refine wu_one ?_; refine kq_callR rfl (r_call2 rfl rfl rfl) (spots_run (S.rdRow (D := fGContract) (i := 0) rfl) (hr3.mono S.below) hz (by omega) hzl) ?_; rintro vZ w hb hrow; rw [hsz] at hrow; replace S := S.new hb hrow; clear hb hrow; refine ⟨S.keep [true, true, true], ?_⟩
        refine wu_one ?_; refine kq_callR rfl (r_call4 rfl rfl rfl rfl rfl) (settle_none hE (S.rdRow (D := fGPosting) (i := 2) rfl) (S.rdRow (D := fGContract) (i := 0) rfl) (S.rdRow (D := fGSpot) (i := 4) rfl) (by omega) (by omega) (by omega) (hG.mono S.below)) ?_; rintro _ w hb rfl; replace S := (S.grow hb).nilRow fGPosting 84; clear hb; refine ⟨S.keep [true, true, true], ?_⟩
        refine wu_vals ?_; refine jq_val rfl (fun w' hJ => ⟨rfl⟩) ?_; refine jq_val rfl (fun w' hJ => r_extract rfl rfl) ?_; refine jq_val rfl (fun w' hJ => r_extract rfl rfl) ?_; refine jq_nil ?_
        refine wu_one ?_; refine kq_skipE rfl (r_storeVar (i := 3) S rfl rfl rfl rfl (of_decide_eq_true rfl) (of_decide_eq_true rfl)) ?_; intro w S'; replace S := S'; clear S'; refine ⟨S.keep [true, true, true], ?_⟩
        refine wu_vals ?_; refine jq_val rfl (fun w' hJ => ⟨rfl⟩) ?_; refine jq_nil ?_; refine wu_fin ?_; refine calm_normal ?_; exact ⟨390, 0, 0, [], none, 0, b21, ⟨rfl, rfl, rfl, rfl, rfl, rfl, rfl, rfl, rfl, trivial⟩, (S.keep [true, true, true, true, false, true]).perm (List.Perm.append_left [_, _, _] (List.perm_middle (l₁ := [_]))), fun h => by omega, .inr rfl⟩
    | some L' =>
      rw [hearly L' hE] at hE
      refine WP_drawU (fun w' => St w0 w' [rowOb fGContract 70 (.slice AL l.length cL) l, .var b14 27 (bkV 6 (.slice AB E.length cB) M), rowP (.slice AB E.length cB) E]) (.vals [0, 1, 2, 3, 5] (.two 4 (.two 6 (.vals [7, 8, 9] (.one 10 (.one 11 (.vals [12] .fin)))) 10 (.one 6 (.vals [7, 8, 9] (.one 11 (.vals [12] .fin))))) 10 (.one 4 (.one 6 (.vals [7, 8, 9] (.one 11 (.vals [12] .fin))))))) (by kernel_rfl) (by decide) (by decide +kernel) (fun w' hb => S.grow hb) ?_
      intro w' hb; replace S := S.grow hb; clear hb
      refine wu_vals ?_
      repeat' (first | refine jq_nil ?_ | (refine gj_move ?_; refine jq_val rfl (fun w' hJ => ⟨rfl⟩) ?_) | (refine gj_assign ?_; refine jq_val rfl (fun w' hJ => ⟨rfl⟩) ?_) | (refine jq_val rfl (fun w' hJ => r_loadVarA (i := 1) hJ rfl rfl rfl rfl) ?_))
      refine wu_two ?_ ?_
      · refine kq_callR rfl (r_call2 rfl rfl rfl) (spots_run (S.rdRow (D := fGContract) (i := 0) rfl) (hr3.mono S.below) hz (by omega) hzl) ?_; rintro vZ w hb hrow; rw [hsz] at hrow; replace S := S.new hb hrow; clear hb hrow; refine ⟨S.keep [true, true, true], ?_⟩
        refine wu_two ?_ ?_
        · refine kq_callR rfl (r_call4 rfl rfl rfl rfl rfl) (settle_some hE (S.rdRow (D := fGPosting) (i := 2) rfl) (S.rdRow (D := fGContract) (i := 0) rfl) (S.rdRow (D := fGSpot) (i := 3) rfl) (by omega) (by omega) (by omega) (hG.mono S.below)) ?_; rintro _ w hb ⟨vc, rfl, S'⟩; obtain ⟨A1, c1, hz2⟩ := (S'.rdRow (D := fGPosting) (i := 0) rfl).len; subst hz2; replace S := S.join S'; clear hb S'; refine ⟨S.keep [true, true, true], ?_⟩
          refine wu_vals ?_; refine jq_val rfl (fun w' hJ => ⟨rfl⟩) ?_; refine jq_val rfl (fun w' hJ => r_extract rfl rfl) ?_; refine jq_val rfl (fun w' hJ => r_extract rfl rfl) ?_; refine jq_nil ?_
          refine wu_one ?_; refine kq_valE rfl (r_alloc S) ?_; rintro _ w ⟨b21, rfl, -, S'⟩; replace S := S'; clear S'; refine ⟨S.keep [true, true, true], ?_⟩
          refine wu_one ?_; refine kq_skipE rfl (r_storeVar (i := 5) S rfl rfl rfl rfl (of_decide_eq_true rfl) (of_decide_eq_true rfl)) ?_; intro w S'; replace S := S'; clear S'; refine ⟨S.keep [true, true, true], ?_⟩
          refine wu_vals ?_; refine jq_val rfl (fun w' hJ => ⟨rfl⟩) ?_; refine jq_nil ?_; refine wu_fin ?_; refine calm_normal ?_; exact ⟨0, 6, M, E, A1, c1, b21, ⟨rfl, rfl, rfl, rfl, rfl, rfl, rfl, rfl, rfl, trivial⟩, S.keep [true, true, true, false, true, true], fun _ => ⟨rfl, rfl, rfl⟩, .inl rfl⟩
        · refine kq_valE rfl (r_alloc S) ?_; rintro _ w ⟨b21, rfl, -, S'⟩; replace S := S'; clear S'; refine ⟨S.keep [true, true, true], ?_⟩
          refine wu_one ?_; refine kq_callR rfl (r_call4 rfl rfl rfl rfl rfl) (settle_some hE (S.rdRow (D := fGPosting) (i := 2) rfl) (S.rdRow (D := fGContract) (i := 0) rfl) (S.rdRow (D := fGSpot) (i := 3) rfl) (by omega) (by omega) (by omega) (hG.mono S.below)) ?_; rintro _ w hb ⟨vc, rfl, S'⟩; obtain ⟨A1, c1, hz2⟩ := (S'.rdRow (D := fGPosting) (i := 0) rfl).len; subst hz2; replace S := S.join S'; clear hb S'; refine ⟨S.keep [true, true, true], ?_⟩
          refine wu_vals ?_; refine jq_val rfl (fun w' hJ => ⟨rfl⟩) ?_; refine jq_val rfl (fun w' hJ => r_extract rfl rfl) ?_; refine jq_val rfl (fun w' hJ => r_extract rfl rfl) ?_; refine jq_nil ?_
          refine wu_one ?_; refine kq_skipE rfl (r_storeVar (i := 4) S rfl rfl rfl rfl (of_decide_eq_true rfl) (of_decide_eq_true rfl)) ?_; intro w S'; replace S := S'; clear S'; refine ⟨S.keep [true, true, true], ?_⟩
          refine wu_vals ?_; refine jq_val rfl (fun w' hJ => ⟨rfl⟩) ?_; refine jq_nil ?_; refine wu_fin ?_; refine calm_normal ?_; exact ⟨0, 6, M, E, A1, c1, b21, ⟨rfl, rfl, rfl, rfl, rfl, rfl, rfl, rfl, rfl, trivial⟩, (S.keep [true, true, true, false, true, true]).perm (List.Perm.append_left [_, _, _] (List.perm_middle (l₁ := [_]))), fun _ => ⟨rfl, rfl, rfl⟩, .inl rfl⟩
      · refine kq_valE rfl (r_alloc S) ?_; rintro _ w ⟨b21, rfl, -, S'⟩; replace S := S'; clear S'; refine ⟨S.keep [true, true, true], ?_⟩
        refine wu_one ?_; refine kq_callR rfl (r_call2 rfl rfl rfl) (spots_run (S.rdRow (D := fGContract) (i := 0) rfl) (hr3.mono S.below) hz (by omega) hzl) ?_; rintro vZ w hb hrow; rw [hsz] at hrow; replace S := S.new hb hrow; clear hb hrow; refine ⟨S.keep [true, true, true], ?_⟩
        refine wu_one ?_; refine kq_callR rfl (r_call4 rfl rfl rfl rfl rfl) (settle_some hE (S.rdRow (D := fGPosting) (i := 2) rfl) (S.rdRow (D := fGContract) (i := 0) rfl) (S.rdRow (D := fGSpot) (i := 4) rfl) (by omega) (by omega) (by omega) (hG.mono S.below)) ?_; rintro _ w hb ⟨vc, rfl, S'⟩; obtain ⟨A1, c1, hz2⟩ := (S'.rdRow (D := fGPosting) (i := 0) rfl).len; subst hz2; replace S := S.join S'; clear hb S'; refine ⟨S.keep [true, true, true], ?_⟩
        refine wu_vals ?_; refine jq_val rfl (fun w' hJ => ⟨rfl⟩) ?_; refine jq_val rfl (fun w' hJ => r_extract rfl rfl) ?_; refine jq_val rfl (fun w' hJ => r_extract rfl rfl) ?_; refine jq_nil ?_
        refine wu_one ?_; refine kq_skipE rfl (r_storeVar (i := 3) S rfl rfl rfl rfl (of_decide_eq_true rfl) (of_decide_eq_true rfl)) ?_; intro w S'; replace S := S'; clear S'; refine ⟨S.keep [true, true, true], ?_⟩
        refine wu_vals ?_; refine jq_val rfl (fun w' hJ => ⟨rfl⟩) ?_; refine jq_nil ?_; refine wu_fin ?_; refine calm_normal ?_; exact ⟨0, 6, M, E, A1, c1, b21, ⟨rfl, rfl, rfl, rfl, rfl, rfl, rfl, rfl, rfl, trivial⟩, (S.keep [true, true, true, true, false, true]).perm (List.Perm.append_left [_, _, _] (List.perm_middle (l₁ := [_]))), fun _ => ⟨rfl, rfl, rfl⟩, .inl rfl⟩
  clear S
  rintro σ w1 ⟨ge, ac, cc, E1, A1, c1, b21, hs, S, hge, hge2⟩
  refine WP_has hs ?_
  clear hs
  repeat' (refine WP_seq ?_)
  refine WP_then_cut (fun σ w1 => ∃ (A2 : Option Addr) (c2 b23 : Nat), Has σ [(2, vz), (4, .int .i64 two), (12, .slice AL l.length cL), (13, .int .i64 d), (14, .pointer (some ⟨b14, 0, none⟩)), (16, .int .i64 M), (20, .int .i64 th), (21, .pointer (some ⟨b21, 0, none⟩)), (22, .int .i64 ge), (23, .pointer (some ⟨b23, 0, none⟩)), (24, .int .i64 0)] ∧ St w0 w1 [rowOb fGContract 70 (.slice AL l.length cL) l, .var b14 27 (bkV 6 (.slice AB E.length cB) M), rowP (.slice AB E.length cB) E, rowP (.slice A1 E1.length c1) E1, .var b21 27 (bkV ac (.slice A1 E1.length c1) cc), rowP (.slice A2 L2.length c2) L2, .var b23 27 (bkV 6 (.slice A2 L2.length c2) M)]) ?_ ?_
  · refine WP_drawU (fun w' => St w0 w' [rowOb fGContract 70 (.slice AL l.length cL) l, .var b14 27 (bkV 6 (.slice AB E.length cB) M), rowP (.slice AB E.length cB) E, rowP (.slice A1 E1.length c1) E1, .var b21 27 (bkV ac (.slice A1 E1.length c1) cc)]) (.vals [0, 1, 2, 3, 5] (.two 4 (.two 6 (.vals [7, 8, 9] (.one 10 (.one 11 (.vals [12] .fin)))) 10 (.one 6 (.vals [7, 8, 9] (.one 11 (.vals [12] .fin))))) 10 (.one 4 (.one 6 (.vals [7, 8, 9] (.one 11 (.vals [12] .fin))))))) (by kernel_rfl) (by decide) (by decide +kernel) (fun w' hb => S.grow hb) ?_
    intro w' hb; replace S := S.grow hb; clear hb
    refine wu_vals ?_
    repeat' (first | refine jq_nil ?_ | (refine gj_move ?_; refine jq_val rfl (fun w' hJ => ⟨rfl⟩) ?_) | (refine gj_assign ?_; refine jq_val rfl (fun w' hJ => ⟨rfl⟩) ?_) | (refine jq_val rfl (fun w' hJ => r_loadVarA (i := 1) hJ rfl rfl rfl rfl) ?_))
    refine wu_two ?_ ?_
    · refine kq_callR rfl (r_call2 rfl rfl rfl) (spots_run (S.rdRow (D := fGContract) (i := 0) rfl) (hr3.mono S.below) hz (by omega) hzl) ?_; rintro vZ w hb hrow; rw [hsz] at hrow; replace S := S.new hb hrow; clear hb hrow; refine ⟨S.keep [true, true, true, true, true], ?_⟩
      refine wu_two ?_ ?_
      · refine kq_callR rfl (r_call4 rfl rfl rfl rfl rfl) (settle_some e2 (S.rdRow (D := fGPosting) (i := 2) rfl) (S.rdRow (D := fGContract) (i := 0) rfl) (S.rdRow (D := fGSpot) (i := 5) rfl) (by omega) (by omega) (by omega) (hG.mono S.below)) ?_; rintro _ w hb ⟨vc, rfl, S'⟩; obtain ⟨A2, c2, hz2⟩ := (S'.rdRow (D := fGPosting) (i := 0) rfl).len; subst hz2; replace S := S.join S'; clear hb S'; refine ⟨S.keep [true, true, true, true, true], ?_⟩
        refine wu_vals ?_; refine jq_val rfl (fun w' hJ => ⟨rfl⟩) ?_; refine jq_val rfl (fun w' hJ => r_extract rfl rfl) ?_; refine jq_val rfl (fun w' hJ => r_extract rfl rfl) ?_; refine jq_nil ?_
        refine wu_one ?_; refine kq_valE rfl (r_alloc S) ?_; rintro _ w ⟨b23, rfl, -, S'⟩; replace S := S'; clear S'; refine ⟨S.keep [true, true, true, true, true], ?_⟩
        refine wu_one ?_; refine kq_skipE rfl (r_storeVar (i := 7) S rfl rfl rfl rfl (of_decide_eq_true rfl) (of_decide_eq_true rfl)) ?_; intro w S'; replace S := S'; clear S'; refine ⟨S.keep [true, true, true, true, true], ?_⟩
        refine wu_vals ?_; refine jq_val rfl (fun w' hJ => ⟨rfl⟩) ?_; refine jq_nil ?_; refine wu_fin ?_; refine calm_normal ?_; exact ⟨A2, c2, b23, ⟨rfl, rfl, rfl, rfl, rfl, rfl, rfl, rfl, rfl, rfl, rfl, trivial⟩, S.keep [true, true, true, true, true, false, true, true]⟩
      · refine kq_valE rfl (r_alloc S) ?_; rintro _ w ⟨b23, rfl, -, S'⟩; replace S := S'; clear S'; refine ⟨S.keep [true, true, true, true, true], ?_⟩
        refine wu_one ?_; refine kq_callR rfl (r_call4 rfl rfl rfl rfl rfl) (settle_some e2 (S.rdRow (D := fGPosting) (i := 2) rfl) (S.rdRow (D := fGContract) (i := 0) rfl) (S.rdRow (D := fGSpot) (i := 5) rfl) (by omega) (by omega) (by omega) (hG.mono S.below)) ?_; rintro _ w hb ⟨vc, rfl, S'⟩; obtain ⟨A2, c2, hz2⟩ := (S'.rdRow (D := fGPosting) (i := 0) rfl).len; subst hz2; replace S := S.join S'; clear hb S'; refine ⟨S.keep [true, true, true, true, true], ?_⟩
        refine wu_vals ?_; refine jq_val rfl (fun w' hJ => ⟨rfl⟩) ?_; refine jq_val rfl (fun w' hJ => r_extract rfl rfl) ?_; refine jq_val rfl (fun w' hJ => r_extract rfl rfl) ?_; refine jq_nil ?_
        refine wu_one ?_; refine kq_skipE rfl (r_storeVar (i := 6) S rfl rfl rfl rfl (of_decide_eq_true rfl) (of_decide_eq_true rfl)) ?_; intro w S'; replace S := S'; clear S'; refine ⟨S.keep [true, true, true, true, true], ?_⟩
        refine wu_vals ?_; refine jq_val rfl (fun w' hJ => ⟨rfl⟩) ?_; refine jq_nil ?_; refine wu_fin ?_; refine calm_normal ?_; exact ⟨A2, c2, b23, ⟨rfl, rfl, rfl, rfl, rfl, rfl, rfl, rfl, rfl, rfl, rfl, trivial⟩, (S.keep [true, true, true, true, true, false, true, true]).perm (List.Perm.append_left [_, _, _, _, _] (List.perm_middle (l₁ := [_])))⟩
    · refine kq_valE rfl (r_alloc S) ?_; rintro _ w ⟨b23, rfl, -, S'⟩; replace S := S'; clear S'; refine ⟨S.keep [true, true, true, true, true], ?_⟩
      refine wu_one ?_; refine kq_callR rfl (r_call2 rfl rfl rfl) (spots_run (S.rdRow (D := fGContract) (i := 0) rfl) (hr3.mono S.below) hz (by omega) hzl) ?_; rintro vZ w hb hrow; rw [hsz] at hrow; replace S := S.new hb hrow; clear hb hrow; refine ⟨S.keep [true, true, true, true, true], ?_⟩
      refine wu_one ?_; refine kq_callR rfl (r_call4 rfl rfl rfl rfl rfl) (settle_some e2 (S.rdRow (D := fGPosting) (i := 2) rfl) (S.rdRow (D := fGContract) (i := 0) rfl) (S.rdRow (D := fGSpot) (i := 6) rfl) (by omega) (by omega) (by omega) (hG.mono S.below)) ?_; rintro _ w hb ⟨vc, rfl, S'⟩; obtain ⟨A2, c2, hz2⟩ := (S'.rdRow (D := fGPosting) (i := 0) rfl).len; subst hz2; replace S := S.join S'; clear hb S'; refine ⟨S.keep [true, true, true, true, true], ?_⟩
      refine wu_vals ?_; refine jq_val rfl (fun w' hJ => ⟨rfl⟩) ?_; refine jq_val rfl (fun w' hJ => r_extract rfl rfl) ?_; refine jq_val rfl (fun w' hJ => r_extract rfl rfl) ?_; refine jq_nil ?_
      refine wu_one ?_; refine kq_skipE rfl (r_storeVar (i := 5) S rfl rfl rfl rfl (of_decide_eq_true rfl) (of_decide_eq_true rfl)) ?_; intro w S'; replace S := S'; clear S'; refine ⟨S.keep [true, true, true, true, true], ?_⟩
      refine wu_vals ?_; refine jq_val rfl (fun w' hJ => ⟨rfl⟩) ?_; refine jq_nil ?_; refine wu_fin ?_; refine calm_normal ?_; exact ⟨A2, c2, b23, ⟨rfl, rfl, rfl, rfl, rfl, rfl, rfl, rfl, rfl, rfl, rfl, trivial⟩, (S.keep [true, true, true, true, true, true, false, true]).perm (List.Perm.append_left [_, _, _, _, _] (List.perm_middle (l₁ := [_])))⟩
  clear S
  rintro σ w1 ⟨A2, c2, b23, hs, S⟩
  refine WP_has hs ?_
  clear hs
  repeat' (first | refine WP_seq ?_ | refine WP_region ?_ | refine wl_nil ?_ | refine then_normal ?_ | refine WP_skip ?_ | refine WP_block ?_ | refine WP_condF rfl ?_ | (refine g_guard ?_; refine st_off rfl ?_) | (refine g_move ?_; refine st_move rfl ?_) | (refine g_assign ?_; refine st_assign rfl ?_) | (refine g_pick ?_; first | refine st_pickT rfl rfl ?_ | refine st_pickF rfl rfl ?_) | (refine g_b_eql ?_; refine st_val rfl (r_eql rfl rfl) ?_) | (refine g_b_neq ?_; refine st_val rfl (r_neq rfl rfl) ?_) | (refine g_b_lss ?_; refine st_val rfl (r_lss rfl rfl) ?_) | (refine g_un ?_; refine st_val rfl (r_not rfl) ?_) | (refine g_c_len ?_; refine st_val rfl (r_lenSlice rfl) ?_) | (refine g_fieldAddr ?_; refine st_val rfl (r_fieldAddrL rfl) ?_) | (refine g_load ?_; first | refine st_val rfl (r_loadVar (i := 1) S rfl rfl rfl) ?_ | refine st_val rfl (r_loadVarA (i := 1) S rfl rfl rfl rfl) ?_ | refine st_val rfl (r_loadVarA (i := 4) S rfl rfl rfl rfl) ?_ | refine st_val rfl (r_loadVar (i := 6) S rfl rfl rfl) ?_) | (refine g_callV ?_; (refine st_callV rfl (r_call2 rfl rfl rfl) (sameB_of (hge h) (S.rdRow (D := fGPosting) (i := 3) rfl) (S.rdRow (D := fGPosting) (i := 2) rfl) (by omega)) ?_; intro w hb; replace S := S.grow hb; clear hb)) | (refine wl_split rfl rfl (fun h => ?_) (fun h => ?_) <;> (fail_if_success (have hh : true = true := h)) <;> (fail_if_success (have hh : false = false := h)) <;> (try simp only [decide_eq_true_eq, decide_eq_false_iff_not, Bool.not_eq_true', Bool.not_eq_false', Int.not_lt, Int.not_le] at h) <;> (try (exfalso; omega)) <;> (try (exfalso; revert h; decide)) <;> (try (exfalso; omega; done))))
  all_goals
    refine WP_loop (fun m σ w1 => ∃ (i : Int), Has σ [(14, .pointer (some ⟨b14, 0, none⟩)), (16, .int .i64 M), (23, .pointer (some ⟨b23, 0, none⟩)), (25, .int .i64 i)] ∧ St w0 w1 [rowOb fGContract 70 (.slice AL l.length cL) l, .var b14 27 (bkV 6 (.slice AB E.length cB) M), rowP (.slice AB E.length cB) E, rowP (.slice A1 E1.length c1) E1, .var b21 27 (bkV ac (.slice A1 E1.length c1) cc), rowP (.slice A2 L2.length c2) L2, .var b23 27 (bkV 6 (.slice A2 L2.length c2) M)] ∧ 0 ≤ i ∧ i ≤ M ∧ m = M.toNat - i.toNat) M.toNat ⟨0, ⟨rfl, rfl, rfl, rfl, trivial⟩, S, by omega, by omega, by omega⟩ ?_
    clear S
    rintro m σ w1 ⟨i, hs, S, hi0, hi1, hm⟩
    refine WP_has hs ?_
    by_cases hi : i < M
    · obtain ⟨r, hr⟩ : ∃ r, tab (balN (isS E i) E E.length) 6 = r := ⟨_, rfl⟩
      have hrl : r.length = 6 := by rw [← hr]; exact tab_len
      have hr2 : tab (balN (isS L2 i) L2 L2.length) 6 = r := by rw [← hL2, stat_same e2d (by omega)]; exact hr
      repeat' (first | refine WP_seq ?_ | refine WP_region ?_ | refine wl_nil ?_ | refine then_normal ?_ | refine WP_skip ?_ | refine WP_block ?_ | (refine g_move ?_; refine st_move rfl ?_) | (refine g_b_lss ?_; refine st_val rfl (r_lss rfl rfl) ?_) | (refine g_load ?_; refine st_val rfl (r_loadVarA (i := 1) S rfl rfl rfl rfl) ?_) | (refine WP_cond rfl (fun h => ?_) (fun h => ?_) <;> (fail_if_success (have hh : true = true := h)) <;> (fail_if_success (have hh : false = false := h)) <;> (try simp only [decide_eq_true_eq, decide_eq_false_iff_not, Bool.not_eq_true', Bool.not_eq_false', Int.not_lt, Int.not_le] at h) <;> (try (exfalso; omega))))
      refine st_callR rfl (r_call2 rfl rfl rfl) (stat_is hvM (by omega) hr (S.rdRow (D := fGPosting) (i := 2) rfl) (by omega)) ?_
      rintro _ w hb ⟨va, rfl, hrow⟩; replace S := S.new hb hrow; clear hb hrow
      repeat' (first | refine WP_seq ?_ | refine WP_region ?_ | refine wl_nil ?_ | refine then_normal ?_ | (refine g_move ?_; refine st_move rfl ?_) | (refine g_assign ?_; refine st_assign rfl ?_) | (refine g_extract ?_; refine st_val rfl (r_extract rfl rfl) ?_) | (refine g_load ?_; refine st_val rfl (r_loadVarA (i := 6) S rfl rfl rfl rfl) ?_))
      refine st_callR rfl (r_call2 rfl rfl rfl) (stat_is hS2.val (by omega) hr2 (S.rdRow (D := fGPosting) (i := 5) rfl) (by omega)) ?_
      rintro _ w hb ⟨vb, rfl, hrow⟩; replace S := S.new hb hrow; clear hb hrow
      replace S : St w0 w [rowOb fGContract 70 (.slice AL l.length cL) l, .var b14 27 (bkV 6 (.slice AB E.length cB) M), rowP (.slice AB E.length cB) E, rowP (.slice A1 E1.length c1) E1, .var b21 27 (bkV ac (.slice A1 E1.length c1) cc), rowP (.slice A2 L2.length c2) L2, .var b23 27 (bkV 6 (.slice A2 L2.length c2) M), rowOb (fInt .i64) 3 va r, rowOb (fInt .i64) 3 vb r] := S
      repeat' (first | refine WP_seq ?_ | refine WP_region ?_ | refine wl_nil ?_ | refine then_normal ?_ | refine inB_normal ?_ | refine WP_skip ?_ | refine WP_condF rfl ?_ | (refine g_move ?_; refine st_move rfl ?_) | (refine g_assign ?_; refine st_assign rfl ?_) | (refine g_pick ?_; refine st_pickF rfl rfl ?_) | (refine g_b_add ?_; (refine st_val rfl (r_addN rfl rfl ?_ ?_) ?_; (first | omega | (simp <;> omega)); (first | omega | (simp <;> omega)))) | (refine g_b_neq ?_; refine st_val rfl (r_neq rfl rfl) ?_) | (refine g_un ?_; refine st_val rfl (r_not rfl) ?_) | (refine g_extract ?_; refine st_val rfl (r_extract rfl rfl) ?_) | (refine g_callV ?_; (refine st_callV rfl (r_call2 rfl rfl rfl) (ints_is (b := true) (decide_eq_true rfl) (S.rdRow (D := fInt .i64) (i := 7) rfl) (S.rdRow (D := fInt .i64) (i := 8) rfl) (by omega) (by omega)) ?_; intro w hb; replace S := S.grow hb; clear hb)))
      refine ⟨⟨_, ?_, i + 1, ⟨rfl, rfl, rfl, rfl, trivial⟩, S.keep [true, true, true, true, true, true, true], by omega, by omega, rfl⟩⟩
      omega
    · repeat' (first | refine WP_seq ?_ | refine WP_region ?_ | refine wl_nil ?_ | refine then_normal ?_ | refine then_exit ?_ | refine inB_here ?_ | refine WP_ret ?_ | refine WP_exit ?_ | refine WP_draw (by kernel_rfl) (by kernel_rfl) ?_ | (refine ql_nil ?_; intro w hb; replace S := S.grow hb; clear hb) | (refine g_move ?_; refine st_move rfl ?_) | (refine g_b_lss ?_; refine st_val rfl (r_lss rfl rfl) ?_) | (refine gq_assign ?_; refine q_assign rfl ?_) | (refine gq_c_len ?_; refine q_val rfl (fun w' hb => r_lenSlice rfl) ?_) | (refine gq_fieldAddr ?_; refine q_val rfl (fun w' hb => r_fieldAddrL rfl) ?_) | (refine gq_load ?_; first | refine q_val rfl (fun w' hb => r_loadVar (i := 1) (S.grow hb) rfl rfl rfl) ?_ | refine q_val rfl (fun w' hb => r_loadVar (i := 6) (S.grow hb) rfl rfl rfl) ?_) | (refine gq_callV ?_; refine q_callV rfl (fun w' hb => r_call2 rfl rfl rfl) (fun w' hb => sameP_is (b := true) (decide_eq_true (by rw [← hL2]; simp)) (((S.grow hb).rdRow (D := fGPosting) (i := 5) rfl).cut (lo := 0) (hi := E.length) (by omega) (by omega)) ((S.grow hb).rdRow (D := fGPosting) (i := 2) rfl) (by simp; omega) (by omega)) ?_) | (refine q_val rfl (fun w' hb => r_sliceHi ((S.grow hb).rdRow (D := fGPosting) (i := 5) rfl) rfl rfl (by omega) (by omega)) ?_) | (refine WP_cond rfl (fun h => ?_) (fun h => ?_) <;> (fail_if_success (have hh : true = true := h)) <;> (fail_if_success (have hh : false = false := h)) <;> (try simp only [decide_eq_true_eq, decide_eq_false_iff_not, Bool.not_eq_true', Bool.not_eq_false', Int.not_lt, Int.not_le] at h) <;> (try (exfalso; omega)) <;> (try (exfalso; omega; done))))
      all_goals exact end1 rfl rfl ⟨rfl, S.below⟩
end Go.Proofs.YtijnbpnficcpmaaDoor
