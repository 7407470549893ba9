/- Merged texts: BN, BO, PA, BP, BQ, BS, BT, BU, LC. -/
import Derived.Test.YtijnbpnficcpmaaDoorMB1
import Derived.Test.YtijnbpnficcpmaaDoorMG2
import Derived.Test.YtijnbpnficcpmaaDoorMC2
/- The charge of a contract: a range over slices.Backward. -/
namespace Go.Proofs.YtijnbpnficcpmaaDoor
open Go Go.Gx Go.RowKit
set_option linter.unusedVariables false
set_option linter.unusedSimpArgs false

theorem r_yield2 {P : Program} {ρ : Operand → Value} {w w0 : World} {d : Option Tmp} {ty : TypeId} {pos : String} {af : Array Edge} {g : Option (Nat × Bool)} {fo a0 a1 : Operand} {v0 v1 : Value} {L i : Nat} {r : Loop} {p q : Tmp} {ats : Array TypeId} {os : List Ob} (S : St w0 w os) (hi : os[i]? = some (.raw L (.loop r)))
    (hf : ρ fo = .func (.yield L) #[] #[]) (h0 : ρ a0 = v0) (h1 : ρ a1 = v1) (hp : r.params = #[p, q]) :
    Go.Gx.Runs P ρ ⟨d, .call { callee := .value fo, args := #[a0, a1], argTypes := ats }, ty, pos, af, g⟩ w (.ok (.round L r.fn ((r.tmps.setIfInBounds p v0).setIfInBounds q v1) r.assign r.body) w) :=
  ⟨by
    have e := run_yield (P := P) (args := #[v0, v1]) (S.rawAt hi) (by rw [hp]; rfl)
    rw [hp] at e
    simp only [execOp, resolve, hf, Deferred.ofValue, List.map_toArray, List.map_cons, List.map_nil, h0, h1]
    simpa [invoke, bind, Sem.bind, pure] using e⟩
/-- What was taken back by postings. -/
def bmD : List GPosting → List (Int × Bool)
  | [] => []
  | q :: r => if q.Kind = 3 then mPut q.Of true (bmD r) else bmD r
theorem bmD_get {k : Int} : ∀ {r : List GPosting}, (mGet k (bmD r)).getD false = r.any fun q => decide (q.Kind = 3 ∧ q.Of = k)
  | [] => rfl
  | q :: r => by
    have ih := @bmD_get k r
    unfold bmD
    rw [List.any_cons, ← ih]
    by_cases hk : q.Kind = 3
    · rw [if_pos hk, mGet_put]
      by_cases e : k = q.Of
      · rw [if_pos e, decide_eq_true ⟨hk, e.symm⟩]; rfl
      · rw [if_neg e, decide_eq_false (fun h => e h.2.symm)]; rfl
    · rw [if_neg hk, decide_eq_false (fun h => hk h.1)]; rfl
def hitC (L : List GPosting) (id : Int) (n : Nat) : Bool := decide ((nth L (n : Int)).Kind ≠ 3 ∧ (nth L (n : Int)).Subject = id) && !((L.drop (n + 1)).any fun q => decide (q.Kind = 3 ∧ q.Of = (n : Int)))
/-- The last charge among the first postings. -/
def chg (L : List GPosting) (id : Int) : Nat → Int
  | 0 => -1
  | n + 1 => if hitC L id n then n else chg L id n
def chargeI (L : List GPosting) (id : Int) : Int := chg L id L.length
theorem drop_nth {L : List GPosting} {n : Nat} (h : n < L.length) : L.drop n = nth L (n : Int) :: L.drop (n + 1) := by
  have := nth_get (l := L) (i := (n : Int)) (by omega) (by omega)
  rw [Int.toNat_natCast] at this
  rw [List.drop_eq_getElem_cons h]
  congr 1
  rw [List.getElem?_eq_getElem h] at this
  exact Option.some.inj this
abbrev yldV (L : Nat) : Value := .func (.yield L) #[] #[]
/-- A call of yield with the n-th posting. -/
def YldP (w0 : World) (base : Nat → List Ob) (stop : Nat → List Ob) (hit : Nat → Bool) (P : List GPosting) (L : Nat) : Prop :=
  ∀ (n : Nat) (ex : List Ob) (w : World), n < P.length → St w0 w (base (n + 1) ++ ex) →
    ∀ {ρ : Operand → Value} {d : Option Tmp} {ty : TypeId} {pos : String} {af : Array Edge} {g : Option (Nat × Bool)} {fo a0 a1 : Operand} {ats : Array TypeId}, ρ fo = yldV L → ρ a0 = .int .i64 n → ρ a1 = .agg (nth P (n : Int)).enc.toArray →
      ∃ f tmps a2 b, Go.Gx.Runs Tryd.prog ρ ⟨d, .call { callee := .value fo, args := #[a0, a1], argTypes := ats }, ty, pos, af, g⟩ w (.ok (.round L f tmps a2 b) w) ∧
        RoundIn Fence.wide 0 Tryd.prog L f tmps a2 b w fun e w'' => ∃ u, e = .returned u ∧ ((hit n = true ∧ u = .bool false ∧ St w0 w'' (stop n ++ ex)) ∨ (hit n = false ∧ u = .bool true ∧ St w0 w'' (base n ++ ex)))
theorem st_yldP {w0 w : World} {base stop : Nat → List Ob} {ex : List Ob} {hit : Nat → Bool} {P : List GPosting} {L m N : Nat} {ops : Array Oper} {Q : Post} {σ : Nat → Value} {d : Option Tmp} {ty : TypeId} {pos : String} {af : Array Edge} {g : Option (Nat × Bool)} {fo a0 a1 : Operand} {ats : Array TypeId} {rest : List Oper}
    (hw : wantS ⟨d, .call { callee := .value fo, args := #[a0, a1], argTypes := ats }, ty, pos, af, g⟩ ops N σ = true) (hY : YldP w0 base stop hit P L) (hm : m < P.length) (S : St w0 w (base (m + 1) ++ ex)) (hf : opv (cut N σ) fo = yldV L) (h0 : opv (cut N σ) a0 = .int .i64 m) (h1 : opv (cut N σ) a1 = .agg (nth P (m : Int)).enc.toArray)
    (k : ∀ u w1, ((hit m = true ∧ u = .bool false ∧ St w0 w1 (stop m ++ ex)) ∨ (hit m = false ∧ u = .bool true ∧ St w0 w1 (base m ++ ex))) → wl Tryd.prog N ops Q rest (updO σ d u) w1) :
    wl Tryd.prog N ops Q (⟨d, .call { callee := .value fo, args := #[a0, a1], argTypes := ats }, ty, pos, af, g⟩ :: rest) σ w := by
  obtain ⟨f, tm, a2, b1, hrun, hround⟩ := hY m ex w hm S (ρ := opv (cut N σ)) (d := d) (ty := ty) (pos := pos) (af := af) (g := g) (fo := fo) (a0 := a0) (a1 := a1) (ats := ats) hf h0 h1
  exact st_round hw hrun hround k
/-- The last of the first n that is hit. -/
def lastH (hit : Nat → Bool) : Nat → Option Nat
  | 0 => none
  | n + 1 => if hit n then some n else lastH hit n
theorem bwd_run {w0 w : World} {base stop : Nat → List Ob} {ex : List Ob} {hit : Nat → Bool} {P : List GPosting} {L bv : Nat} {v : Value} (hY : YldP w0 base stop hit P L) (hr : Rd fGPosting.ty w0 v P) (hl : P.length ≤ 1000000000)
    (S : St w0 w (.var bv 25 [v] :: (base P.length ++ ex))) :
    CallsW Tryd.prog 114 #[yldV L, .pointer (some ⟨bv, 0, none⟩)] w fun u w' => match lastH hit P.length with
      | none => St w0 w' (.var bv 25 [v] :: (base 0 ++ ex))
      | some n => St w0 w' (.var bv 25 [v] :: (stop n ++ ex)) := by
  refine CallsW.mk ?_
  obtain ⟨A, c, rfl⟩ := hr.len
  refine calls_enter Tryd.func114 rfl (by intro _ h; first | exact nomatch h.1 | (obtain ⟨_, h, _⟩ := h; exact nomatch h)) Tryd.ntmps114 rfl ?_
  repeat' (first | refine WP_seq ?_ | refine WP_region ?_ | refine wl_nil ?_ | refine then_normal ?_ | refine WP_block ?_ | (refine g_assign ?_; refine st_assign rfl ?_) | (refine g_b_sub ?_; (refine st_val rfl (r_subN rfl rfl ?_ ?_) ?_; (first | omega | (simp <;> omega)); (first | omega | (simp <;> omega)))) | (refine g_c_len ?_; refine st_val rfl (r_lenSlice rfl) ?_) | (refine g_load ?_; refine st_val rfl (r_loadVar (i := 0) S rfl rfl rfl) ?_))
  refine WP_loop (fun m σ w1 => ∃ x : Int, Has σ [(0, yldV L), (1, .pointer (some ⟨bv, 0, none⟩)), (3, .int .i64 x)] ∧ x = (m : Int) - 1 ∧ St w0 w1 (.var bv 25 [.slice A P.length c] :: (base m ++ ex)) ∧ m ≤ P.length ∧ lastH hit P.length = lastH hit m) P.length ?_ ?_
  · exact ⟨_, ⟨rfl, rfl, rfl, trivial⟩, rfl, S, Nat.le_refl _, rfl⟩
  clear S
  rintro m σ w1 ⟨x, hs, hx, S, hm, hlast⟩
  refine WP_has hs ?_
  cases m with
  | zero =>
    repeat' (first | refine WP_seq ?_ | refine WP_region ?_ | refine wl_nil ?_ | refine then_normal ?_ | (refine g_move ?_; refine st_move rfl ?_) | (refine g_b_geq ?_; refine st_val rfl (r_geq rfl rfl) ?_))
    refine WP_cond rfl (fun h => absurd (of_decide_eq_true h) (by omega)) (fun h => ?_)
    refine WP_exit ?_
    refine then_exit ?_
    refine then_exit ?_
    refine inB_here ?_
    refine end0 rfl ⟨_, rfl, ?_⟩
    rw [hlast]
    exact S
  | succ m =>
    obtain rfl : x = (m : Int) := by omega
    clear hx
    repeat' (first | refine WP_seq ?_ | refine WP_region ?_ | refine wl_nil ?_ | refine then_normal ?_ | refine WP_skip ?_ | refine WP_block ?_ | refine WP_condT rfl ?_ | (refine g_move ?_; refine st_move rfl ?_) | (refine g_b_geq ?_; refine st_val rfl (r_geq rfl rfl) ?_) | (refine g_indexAddr ?_; (refine st_val rfl (r_indexAddr (hr.mono S.below) rfl rfl ?_ ?_) ?_; (first | omega | (simp <;> omega)); (first | omega | (simp <;> omega)))) | (refine g_load ?_; first | (refine st_val rfl (r_loadElem (hr.mono S.below) rfl ?_ ?_) ?_; (first | omega | (simp <;> omega)); (first | omega | (simp <;> omega))) | refine st_val rfl (r_loadVar (i := 0) S rfl rfl rfl) ?_))
    refine st_yldP rfl hY (by omega) (S.perm (List.perm_middle (l₁ := base (m + 1))).symm) rfl rfl rfl ?_
    clear S
    rintro u w (⟨hh, rfl, S⟩ | ⟨hh, rfl, S⟩)
    · repeat' (first | refine wl_nil ?_ | refine then_normal ?_ | refine then_ret ?_ | refine inB_ret ?_ | refine WP_ret ?_ | refine WP_condT rfl ?_ | (refine g_un ?_; refine st_val rfl (r_not rfl) ?_))
      refine end0r rfl ⟨_, rfl, ?_⟩
      have e : lastH hit P.length = some m := by rw [hlast, lastH, if_pos hh]
      rw [e]
      exact S.perm (List.perm_middle (l₁ := stop m))
    · repeat' (first | refine WP_region ?_ | refine wl_nil ?_ | refine then_normal ?_ | refine inB_normal ?_ | refine WP_skip ?_ | refine WP_condF rfl ?_ | (refine g_move ?_; refine st_move rfl ?_) | (refine g_assign ?_; refine st_assign rfl ?_) | (refine g_b_sub ?_; (refine st_val rfl (r_subN rfl rfl ?_ ?_) ?_; (first | omega | (simp <;> omega)); (first | omega | (simp <;> omega)))) | (refine g_un ?_; refine st_val rfl (r_not rfl) ?_))
      refine nextI.mk ⟨m, by omega, _, ⟨rfl, rfl, rfl, trivial⟩, rfl, S.perm (List.perm_middle (l₁ := base m)), by omega, ?_⟩
      rw [hlast, lastH, if_neg (by rw [hh]; simp)]
end Go.Proofs.YtijnbpnficcpmaaDoor
/- bill's charge. -/
namespace Go.Proofs.YtijnbpnficcpmaaDoor
open Go Go.Gx Go.RowKit
set_option linter.unusedVariables false
set_option linter.unusedSimpArgs false

theorem lastH_chg {L : List GPosting} {id : Int} : ∀ n, chg L id n = match lastH (hitC L id) n with | none => -1 | some k => (k : Int)
  | 0 => rfl
  | n + 1 => by
    unfold chg lastH
    cases h : hitC L id n with
    | true => rfl
    | false => exact lastH_chg n
theorem back_run {A : Option Addr} {n c : Nat} {w0 : World} : CallsR Tryd.prog 107 #[.slice A n c] w0 fun r w' => ∃ b, r = .func (.func 114) #[] [.pointer (some ⟨b, 0, none⟩)].toArray ∧ St w0 w' [.var b 25 [.slice A n c]] := by
  have S := St.start w0
  refine CallsR.mk ?_
  refine calls_enter Tryd.func107 rfl (by intro _ h; first | exact nomatch h.1 | (obtain ⟨_, h, _⟩ := h; exact nomatch h)) Tryd.ntmps107 rfl ?_
  repeat' (first | refine WP_seq ?_ | refine WP_region ?_ | refine wl_nil ?_ | refine then_normal ?_ | refine WP_ret ?_ | (refine g_assign ?_; refine st_assign rfl ?_) | (refine g_makeFunc ?_; refine st_val rfl (r_makeFn1 rfl) ?_) | (refine g_box ?_; refine st_valE rfl (r_box S rfl) ?_; rintro _ w ⟨b, rfl, -, S'⟩; replace S := S'; clear S'))
  exact end1 rfl rfl ⟨_, rfl, S.below, _, rfl, S⟩
theorem runs_as {P : Program} {ρ : Operand → Value} {o : Oper} {w w' : World} {v u : Value} (h : Go.Gx.Runs P ρ o w (.ok (.value v) w')) (e : v = u) : Go.Gx.Runs P ρ o w (.ok (.value u) w') := e ▸ h
/-- A result that lies in a variable. -/
theorem res_cell {P : Program} {fn : Func} {n : Nat} {σ : Nat → Value} {w0 w : World} {t T b i : Nat} {os : List Ob} {T' : TypeId} {v : Value} [hT : TF P T false 1]
    (hr : fn.results = #[.cell t T]) (hv : cut n σ t = .pointer (some ⟨b, 0, none⟩)) (S : St w0 w os) (hi : os[i]? = some (.var b T' [v])) : (results fn (Go.Gx.Fr n σ).tmps).run P w = .ok v w := by
  unfold results
  rw [hr]
  refine (run_bind (mapM_one (b := v) ?_)).trans rfl
  show (do loadVar T (← asAddr ((Go.Gx.Fr n σ).tmps.getD t undef)) : Sem Value).run P w = _
  rw [Fr_getD, hv]
  exact loadVar1 S hi
theorem Fr_set2 (n : Nat) (σ : Nat → Value) (p q : Nat) (v u : Value) : ((Go.Gx.Fr n σ).tmps.setIfInBounds p v).setIfInBounds q u = (Go.Gx.Fr n (upd (upd σ p v) q u)).tmps := by rw [Fr_set, Fr_set]
/-- The cells of a book that is being settled. -/
abbrev blC (acc : Int) (v : Value) (cl : Int) (x : Bool) : List Value := [.int .i64 acc, v, .int .i64 cl, .bool x]
abbrev chO (b3 b4 b5 bm : Nat) (id x : Int) (m : List (Int × Bool)) : List Ob := [mapOb eI eB bm m, .var b3 3 [.int .i64 id], .var b4 3 [.int .i64 x], .var b5 155 [.map (some bm)]]
set_option maxRecDepth 20000 in
set_option maxHeartbeats 1000000 in
theorem charge_run {bl : Nat} {acc cl id : Int} {x : Bool} {L : List GPosting} {v : Value} {w0 : World} (hc : CellsAt w0 ⟨bl, 0, none⟩ (blC acc v cl x)) (hr : Rd fGPosting.ty w0 v L) (hl : L.length ≤ 1000000000) :
    CallsR Tryd.prog 85 #[.pointer (some ⟨bl, 0, none⟩), .int .i64 id] w0 fun r w' => r = .int .i64 (chargeI L id) := by
  have S := St.start w0
  obtain ⟨A0, c, rfl⟩ := hr.len
  refine CallsR.mk ?_
  refine calls_enterD Tryd.func85 rfl Tryd.ntmps85 rfl ?_
  refine WD_seq (WD_of ?_)
  repeat' (first | refine WP_region ?_ | refine wl_nil ?_ | (refine g_box ?_; refine st_valE rfl (r_box S rfl) ?_; rintro _ w ⟨b, rfl, -, S'⟩; replace S := S'; clear S') | (refine g_alloc ?_; refine st_valE rfl (r_alloc S) ?_; rintro _ w ⟨b, rfl, -, S'⟩; replace S := S'; clear S'))
  refine thenD_normal (WD_seq (WD_of ?_))
  repeat' (refine WP_region ?_)
  refine st_valE rfl (r_makeMap (eK := eI) (eV := eB) S) ?_
  rintro _ w ⟨bm, rfl, -, S'⟩; replace S := S'; clear S'
  repeat' (first | refine wl_nil ?_ | (refine g_alloc ?_; refine st_valE rfl (r_alloc S) ?_; rintro _ w ⟨b, rfl, -, S'⟩; replace S := S'; clear S') | (refine g_store ?_; first | (refine st_skipE rfl (r_storeVar (i := 0) S rfl rfl rfl rfl (of_decide_eq_true rfl) (of_decide_eq_true rfl)) ?_; intro w S'; replace S := S'; clear S') | (refine st_skipE rfl (r_storeVar (i := 1) S rfl rfl rfl rfl (of_decide_eq_true rfl) (of_decide_eq_true rfl)) ?_; intro w S'; replace S := S'; clear S') | (refine st_skipE rfl (r_storeVar (i := 2) S rfl rfl rfl rfl (of_decide_eq_true rfl) (of_decide_eq_true rfl)) ?_; intro w S'; replace S := S'; clear S') | (refine st_skipE rfl (r_storeVar (i := 3) S rfl rfl rfl rfl (of_decide_eq_true rfl) (of_decide_eq_true rfl)) ?_; intro w S'; replace S := S'; clear S')))
  refine thenD_normal (WD_seq (WD_seq (WD_of ?_)))
  repeat' (first | refine WP_region ?_ | (refine g_move ?_; refine st_move rfl ?_) | (refine g_nilCheck ?_; refine st_val rfl (r_nilCheck rfl) ?_) | (refine g_fieldAddr ?_; refine st_val rfl (r_fieldAddrL rfl) ?_) | (refine g_load ?_; refine st_val rfl (r_loadAt (hc.mono S.below) rfl rfl) ?_))
  refine st_callR rfl (r_call1 rfl rfl) back_run ?_
  rintro _ w hb ⟨bv, rfl, S'⟩
  replace S := S.join S'
  clear S' hb
  rename_i b3 _ b4 _ _ _
  obtain ⟨b5, rfl⟩ : ∃ x, x = b := ⟨_, rfl⟩
  repeat' (refine wl_nil ?_)
  refine thenD_normal (WD_block (WD_range S rfl ?_))
  clear S
  intro fn Lp Dk w1 r hrr S
  have hrn : recJ r none = r := by subst hrr; rfl
  have hY : YldP w0 (fun n => .raw Lp (.loop r) :: chO b3 b4 b5 bm id 0 (bmD (L.drop n))) (fun n => .raw Lp (.loop (recJ r (some .ret))) :: chO b3 b4 b5 bm id n (bmD (L.drop (n + 1)))) (hitC L id) L Lp := by
    clear S
    intro n ex w hn S ρ d ty pos af g fo a0 a1 ats hf h0 h1
    subst hrr
    refine ⟨fn, _, _, _, r_yield2 S (i := 0) rfl hf h0 h1 rfl, ?_⟩
    refine round_WP S rfl rfl rfl (Fr_set2 _ _ _ _ _ _) ?_
    refine WP_has (l := [(3, .pointer (some ⟨b3, 0, none⟩)), (4, .pointer (some ⟨b4, 0, none⟩)), (5, .pointer (some ⟨b5, 0, none⟩)), (15, .int .i64 n), (16, .agg (nth L (n : Int)).enc.toArray)]) ⟨rfl, rfl, rfl, rfl, rfl, trivial⟩ ?_
    repeat' (first | refine WP_seq ?_ | refine WP_region ?_ | refine wl_nil ?_ | refine then_normal ?_ | (refine g_assign ?_; refine st_assign rfl ?_) | (refine g_alloc ?_; refine st_valE rfl (r_alloc S) ?_; rintro _ w ⟨b, rfl, -, S'⟩; replace S := S'.front; clear S') | (refine g_store ?_; (refine st_skipE rfl (r_storeVar (i := 0) S rfl rfl rfl rfl (of_decide_eq_true rfl) (of_decide_eq_true rfl)) ?_; intro w S'; replace S := S'; clear S')))
    refine ⟨rfl, _, (show St w0 w (.var b 84 (nth L (n : Int)).enc :: .raw Lp _ :: (chO b3 b4 b5 bm id 0 (bmD (L.drop (n + 1))) ++ ex)) from S).perm (List.Perm.swap _ _ _), fun w3 S3 => ?_⟩
    replace S : St w0 w3 (.raw Lp _ :: .var b 84 (nth L (n : Int)).enc :: (chO b3 b4 b5 bm id 0 (bmD (L.drop (n + 1))) ++ ex)) := S3
    clear S3
    have hdr : bmD (L.drop n) = if (nth L (n : Int)).Kind = 3 then mPut (nth L (n : Int)).Of true (bmD (L.drop (n + 1))) else bmD (L.drop (n + 1)) := by rw [drop_nth hn]; rfl
    have hbg := @bmD_get (n : Int) (L.drop (n + 1))
    by_cases hk : (nth L (n : Int)).Kind = 3
    · rw [if_pos hk] at hdr
      have hh : hitC L id n = false := by unfold hitC; rw [decide_eq_false (fun h => h.1 hk)]; rfl
      repeat' (first | refine WP_seq ?_ | refine WP_region ?_ | refine wl_nil ?_ | refine then_normal ?_ | refine inB_normal ?_ | refine WP_block ?_ | (refine g_b_eql ?_; refine st_val rfl (r_eql rfl rfl) ?_) | (refine g_fieldAddr ?_; refine st_val rfl (r_fieldAddrL rfl) ?_) | (refine g_load ?_; first | refine st_val rfl (r_loadVar (i := 1) S rfl rfl rfl) ?_ | refine st_val rfl (r_loadVar (i := 5) S rfl rfl rfl) ?_) | (refine st_skipE rfl (r_mapUpdate (i := 2) (eK := eI) (eV := eB) (k := (nth L (n : Int)).Of) (v := true) S rfl rfl rfl rfl) ?_; intro w S'; replace S := S'; clear S') | (refine WP_cond rfl (fun h => ?_) (fun h => ?_) <;> (fail_if_success (have hh : true = true := h)) <;> (fail_if_success (have hh : false = false := h)) <;> (try simp only [decide_eq_true_eq, decide_eq_false_iff_not, Bool.not_eq_true', Bool.not_eq_false', Int.not_lt, Int.not_le] at h) <;> (try (exfalso; omega))))
      refine ⟨none, _, rfl, S, fun w5 S5 => .inr ⟨hh, rfl, ?_⟩⟩
      have S6 := (S5.perm (List.Perm.swap _ _ _)).tail
      show St w0 w5 (.raw Lp _ :: (chO b3 b4 b5 bm id 0 (bmD (L.drop n)) ++ ex))
      rw [hdr]
      exact S6
    · rw [if_neg hk] at hdr
      by_cases hid : (nth L (n : Int)).Subject = id
      · obtain ⟨bb, hbb⟩ : ∃ bb, (mGet (n : Int) (bmD (L.drop (n + 1)))).getD false = bb := ⟨_, rfl⟩
        have hh : hitC L id n = !bb := by unfold hitC; rw [decide_eq_true ⟨hk, hid⟩, ← hbg, hbb]; rfl
        cases bb
        · repeat' (first | refine WP_seq ?_ | refine WP_region ?_ | refine wl_nil ?_ | refine then_normal ?_ | refine inB_ret ?_ | refine WP_ret ?_ | refine WP_block ?_ | refine WP_condT rfl ?_ | (refine g_move ?_; refine st_move rfl ?_) | (refine g_pick ?_; refine st_pickT rfl rfl ?_) | (refine g_b_eql ?_; refine st_val rfl (r_eql rfl rfl) ?_) | (refine g_un ?_; refine st_val rfl (r_not rfl) ?_) | (refine g_fieldAddr ?_; refine st_val rfl (r_fieldAddrL rfl) ?_) | (refine g_load ?_; first | refine st_val rfl (r_loadVar (i := 1) S rfl rfl rfl) ?_ | refine st_val rfl (r_loadVar (i := 3) S rfl rfl rfl) ?_ | refine st_val rfl (r_loadVar (i := 5) S rfl rfl rfl) ?_) | (refine g_store ?_; first | (refine st_skipE rfl (r_storeVar (i := 0) S rfl rfl rfl rfl (of_decide_eq_true rfl) (of_decide_eq_true rfl)) ?_; intro w S'; replace S := S'; clear S') | (refine st_skipE rfl (r_storeVar (i := 1) S rfl rfl rfl rfl (of_decide_eq_true rfl) (of_decide_eq_true rfl)) ?_; intro w S'; replace S := S'; clear S') | (refine st_skipE rfl (r_storeVar (i := 2) S rfl rfl rfl rfl (of_decide_eq_true rfl) (of_decide_eq_true rfl)) ?_; intro w S'; replace S := S'; clear S') | (refine st_skipE rfl (r_storeVar (i := 3) S rfl rfl rfl rfl (of_decide_eq_true rfl) (of_decide_eq_true rfl)) ?_; intro w S'; replace S := S'; clear S') | (refine st_skipE rfl (r_storeVar (i := 4) S rfl rfl rfl rfl (of_decide_eq_true rfl) (of_decide_eq_true rfl)) ?_; intro w S'; replace S := S'; clear S') | (refine st_skipE rfl (r_storeVar (i := 5) S rfl rfl rfl rfl (of_decide_eq_true rfl) (of_decide_eq_true rfl)) ?_; intro w S'; replace S := S'; clear S')) | (refine st_val (v := .bool false) rfl (runs_as (r_lookup1D (k := (n : Int)) (eK := eI) (eV := eB) false rfl (S.mapAt (i := 2) rfl) rfl rfl) (congrArg Value.bool hbb)) ?_) | (refine wl_split rfl rfl (fun h => ?_) (fun h => ?_) <;> (fail_if_success (have hh : true = true := h)) <;> (fail_if_success (have hh : false = false := h)) <;> (try simp only [decide_eq_true_eq, decide_eq_false_iff_not, Bool.not_eq_true', Bool.not_eq_false', Int.not_lt, Int.not_le] at h) <;> (try (exfalso; omega))) | (refine WP_cond rfl (fun h => ?_) (fun h => ?_) <;> (fail_if_success (have hh : true = true := h)) <;> (fail_if_success (have hh : false = false := h)) <;> (try simp only [decide_eq_true_eq, decide_eq_false_iff_not, Bool.not_eq_true', Bool.not_eq_false', Int.not_lt, Int.not_le] at h) <;> (try (exfalso; omega))))
          refine ⟨some .ret, _, rfl, S, fun w5 S5 => .inl ⟨hh, rfl, ?_⟩⟩
          have S6 := (S5.perm (List.Perm.swap _ _ _)).tail
          show St w0 w5 (.raw Lp _ :: (chO b3 b4 b5 bm id n (bmD (L.drop (n + 1))) ++ ex))
          exact S6
        · repeat' (first | refine WP_seq ?_ | refine WP_region ?_ | refine wl_nil ?_ | refine then_normal ?_ | refine inB_normal ?_ | refine WP_skip ?_ | refine WP_block ?_ | refine WP_condF rfl ?_ | (refine g_move ?_; refine st_move rfl ?_) | (refine g_pick ?_; refine st_pickT rfl rfl ?_) | (refine g_b_eql ?_; refine st_val rfl (r_eql rfl rfl) ?_) | (refine g_un ?_; refine st_val rfl (r_not rfl) ?_) | (refine g_fieldAddr ?_; refine st_val rfl (r_fieldAddrL rfl) ?_) | (refine g_load ?_; first | refine st_val rfl (r_loadVar (i := 1) S rfl rfl rfl) ?_ | refine st_val rfl (r_loadVar (i := 3) S rfl rfl rfl) ?_ | refine st_val rfl (r_loadVar (i := 5) S rfl rfl rfl) ?_) | (refine st_val (v := .bool true) rfl (runs_as (r_lookup1D (k := (n : Int)) (eK := eI) (eV := eB) false rfl (S.mapAt (i := 2) rfl) rfl rfl) (congrArg Value.bool hbb)) ?_) | (refine wl_split rfl rfl (fun h => ?_) (fun h => ?_) <;> (fail_if_success (have hh : true = true := h)) <;> (fail_if_success (have hh : false = false := h)) <;> (try simp only [decide_eq_true_eq, decide_eq_false_iff_not, Bool.not_eq_true', Bool.not_eq_false', Int.not_lt, Int.not_le] at h) <;> (try (exfalso; omega))) | (refine WP_cond rfl (fun h => ?_) (fun h => ?_) <;> (fail_if_success (have hh : true = true := h)) <;> (fail_if_success (have hh : false = false := h)) <;> (try simp only [decide_eq_true_eq, decide_eq_false_iff_not, Bool.not_eq_true', Bool.not_eq_false', Int.not_lt, Int.not_le] at h) <;> (try (exfalso; omega))))
          refine ⟨none, _, rfl, S, fun w5 S5 => .inr ⟨hh, rfl, ?_⟩⟩
          have S6 := (S5.perm (List.Perm.swap _ _ _)).tail
          show St w0 w5 (.raw Lp _ :: (chO b3 b4 b5 bm id 0 (bmD (L.drop n)) ++ ex))
          rw [hdr]
          exact S6
      · have hh : hitC L id n = false := by unfold hitC; rw [decide_eq_false (fun h => hid h.2)]; rfl
        repeat' (first | refine WP_seq ?_ | refine WP_region ?_ | refine wl_nil ?_ | refine then_normal ?_ | refine inB_normal ?_ | refine WP_skip ?_ | refine WP_block ?_ | refine WP_condF rfl ?_ | (refine g_guard ?_; refine st_off rfl ?_) | (refine g_move ?_; refine st_move rfl ?_) | (refine g_pick ?_; refine st_pickF rfl rfl ?_) | (refine g_b_eql ?_; refine st_val rfl (r_eql rfl rfl) ?_) | (refine g_fieldAddr ?_; refine st_val rfl (r_fieldAddrL rfl) ?_) | (refine g_load ?_; first | refine st_val rfl (r_loadVar (i := 1) S rfl rfl rfl) ?_ | refine st_val rfl (r_loadVar (i := 3) S rfl rfl rfl) ?_) | (refine wl_split rfl rfl (fun h => ?_) (fun h => ?_) <;> (fail_if_success (have hh : true = true := h)) <;> (fail_if_success (have hh : false = false := h)) <;> (try simp only [decide_eq_true_eq, decide_eq_false_iff_not, Bool.not_eq_true', Bool.not_eq_false', Int.not_lt, Int.not_le] at h) <;> (try (exfalso; omega)) <;> (try (exfalso; omega; done))) | (refine WP_cond rfl (fun h => ?_) (fun h => ?_) <;> (fail_if_success (have hh : true = true := h)) <;> (fail_if_success (have hh : false = false := h)) <;> (try simp only [decide_eq_true_eq, decide_eq_false_iff_not, Bool.not_eq_true', Bool.not_eq_false', Int.not_lt, Int.not_le] at h) <;> (try (exfalso; omega)) <;> (try (exfalso; omega; done))))
        refine ⟨none, _, rfl, S, fun w5 S5 => .inr ⟨hh, rfl, ?_⟩⟩
        have S6 := (S5.perm (List.Perm.swap _ _ _)).tail
        show St w0 w5 (.raw Lp _ :: (chO b3 b4 b5 bm id 0 (bmD (L.drop n)) ++ ex))
        rw [hdr]
        exact S6
  have S2 := (show St w0 w1 [.raw Lp (.loop r), .raw Dk (.deferred (some [])), .var b3 3 [.int .i64 id], .var b4 3 [.int .i64 0], mapOb eI eB bm [], .var b5 155 [.map (some bm)], .var bv 25 [.slice A0 L.length c]] from S).perm ((List.perm_append_comm (l₁ := [_, _, _, _, _, _]) (l₂ := [_])).trans (List.Perm.cons _ (List.Perm.cons _ ((List.perm_append_comm (l₁ := [_]) (l₂ := [_, _, _, _])).trans (List.perm_middle (l₁ := [_, _]))))))
  have eN : bmD (L.drop L.length) = [] := by rw [List.drop_length]; rfl
  refine Calls.mono (bwd_run (ex := [.raw Dk (.deferred (some []))]) hY hr hl (by simp only [eN]; exact S2)).out ?_
  clear S S2
  rintro e w' ⟨u, rfl, hE⟩
  refine ⟨⟨u, rfl⟩, ?_⟩
  have hlc := @lastH_chg L id L.length
  cases hfd : lastH (hitC L id) L.length with
  | none =>
    rw [hfd] at hE hlc
    have hE := hE.perm (List.Perm.swap _ _ _)
    refine ⟨none, _, by rw [hrn]; exact hE, fun w2 S => inBD_normal (thenD_normal (WD_of ?_))⟩
    replace S : St w0 w2 [.var bv 25 [.slice A0 L.length c], mapOb eI eB bm (bmD (L.drop 0)), .var b3 3 [.int .i64 id], .var b4 3 [.int .i64 0], .var b5 155 [.map (some bm)], .raw Dk (.deferred (some []))] := S
    repeat' (first | refine WP_seq ?_ | refine WP_region ?_ | refine wl_nil ?_ | refine then_normal ?_ | refine WP_ret ?_ | (refine g_store ?_; first | (refine st_skipE rfl (r_storeVar (i := 0) S rfl rfl rfl rfl (of_decide_eq_true rfl) (of_decide_eq_true rfl)) ?_; intro w S'; replace S := S'; clear S') | (refine st_skipE rfl (r_storeVar (i := 1) S rfl rfl rfl rfl (of_decide_eq_true rfl) (of_decide_eq_true rfl)) ?_; intro w S'; replace S := S'; clear S') | (refine st_skipE rfl (r_storeVar (i := 2) S rfl rfl rfl rfl (of_decide_eq_true rfl) (of_decide_eq_true rfl)) ?_; intro w S'; replace S := S'; clear S') | (refine st_skipE rfl (r_storeVar (i := 3) S rfl rfl rfl rfl (of_decide_eq_true rfl) (of_decide_eq_true rfl)) ?_; intro w S'; replace S := S'; clear S') | (refine st_skipE rfl (r_storeVar (i := 4) S rfl rfl rfl rfl (of_decide_eq_true rfl) (of_decide_eq_true rfl)) ?_; intro w S'; replace S := S'; clear S')))
    have S5 : St w0 w (marks [Dk] ++ [.var bv 25 [.slice A0 L.length c], mapOb eI eB bm (bmD (L.drop 0)), .var b3 3 [.int .i64 id], .var b4 3 [.int .i64 (-1)], .var b5 155 [.map (some bm)]]) := S.perm (List.perm_append_comm (l₁ := [_, _, _, _, _]) (l₂ := [_]))
    exact leaves_marks (fun w' S' => ⟨_, res_cell rfl rfl S' (i := 3) rfl, _, rfl, S'.below, by unfold chargeI; rw [hlc]⟩) [Dk] _ S5
  | some n =>
    rw [hfd] at hE hlc
    have hE := hE.perm (List.Perm.swap _ _ _)
    refine ⟨some .ret, _, hE, fun w2 S => WD_ret (inBD_ret (thenD_ret ?_))⟩
    have S5 : St w0 w2 (marks [Dk] ++ [.var bv 25 [.slice A0 L.length c], mapOb eI eB bm (bmD (L.drop (n + 1))), .var b3 3 [.int .i64 id], .var b4 3 [.int .i64 n], .var b5 155 [.map (some bm)]]) := (show St w0 w2 [.var bv 25 [.slice A0 L.length c], mapOb eI eB bm (bmD (L.drop (n + 1))), .var b3 3 [.int .i64 id], .var b4 3 [.int .i64 n], .var b5 155 [.map (some bm)], .raw Dk (.deferred (some []))] from S).perm (List.perm_append_comm (l₁ := [_, _, _, _, _]) (l₂ := [_]))
    exact leaves_marks (fun w' S' => ⟨_, res_cell rfl rfl S' (i := 3) rfl, _, rfl, S'.below, by unfold chargeI; rw [hlc]⟩) [Dk] w2 S5
end Go.Proofs.YtijnbpnficcpmaaDoor
/- Settling a book, plainly. -/
namespace Go.Proofs.YtijnbpnficcpmaaDoor
open Go Go.Gx Go.RowKit
set_option linter.unusedVariables false
set_option linter.unusedSimpArgs false

/-! ### What is computed -/
def priceP (day due : Int) (c : GContract) : GPosting := ⟨1, day, c.Sponsor + 1, 0, due, c.ID, -1⟩
def settleB (acc cl : Int) (L : List GPosting) (c : GContract) (due day : Int) : Option (List GPosting) :=
  if 0 ≤ chargeI L c.ID ∧ (nth L (chargeI L c.ID)).Amount ≠ due then (if dispOk acc cl L (chargeI L c.ID) day due = true then some (dispL L (chargeI L c.ID) day due) else none)
  else if chargeI L c.ID < 0 ∧ 0 < due then (if postOk acc cl L (priceP day due c) = true then some (L ++ [priceP day due c]) else none)
  else some L
def setL (acc cl day : Int) (f : GContract → Int) : List GContract → List GPosting → Option (List GPosting)
  | [], L => some L
  | c :: r, L => match settleB acc cl L c (f c) day with | none => none | some L' => setL acc cl day f r L'
def strB (acc : Int) (l : List GContract) : Bool := l.any fun c => decide (acc ≤ c.Sponsor + 1)
def setI (acc cl : Int) (L : List GPosting) (l : List GContract) (sp : List GSpot) (day : Int) : Option (List GPosting) :=
  if (okI l sp && (validBk acc cl L && !strB acc l)) = true then setL acc cl day (dueC (cntS l sp)) l L else none

/-! ### Postings that stand -/
theorem allT_len {a1 : Int} {L : List GPosting} (h : allT a1 L = true) : L.length ≤ 200 := by
  by_cases e : L.length = 0
  · omega
  · have := allT_at h (j := (L.length : Int) - 1) (by omega) (by omega)
    unfold takeB at this
    simp only [Bool.and_eq_true, decide_eq_true_eq, List.length_take] at this
    omega
theorem chg_cases {L : List GPosting} {id : Int} : ∀ n : Nat, (chg L id n = -1 ∧ ∀ i, i < n → hitC L id i = false) ∨ (∃ k, k < n ∧ chg L id n = (k : Int) ∧ hitC L id k = true ∧ ∀ i, k < i → i < n → hitC L id i = false)
  | 0 => .inl ⟨rfl, fun i h => by omega⟩
  | n + 1 => by
    unfold chg
    cases h : hitC L id n with
    | true => exact .inr ⟨n, by omega, by rw [if_pos rfl], h, fun i h1 h2 => by omega⟩
    | false =>
      rw [if_neg (by simp)]
      rcases @chg_cases L id n with ⟨h1, h2⟩ | ⟨k, hk, h1, h2, h3⟩
      · exact .inl ⟨h1, fun i hi => by by_cases e : i = n; (subst e; exact h); exact h2 i (by omega)⟩
      · exact .inr ⟨k, by omega, h1, h2, fun i h4 h5 => by by_cases e : i = n; (subst e; exact h); exact h3 i h4 (by omega)⟩
/-! ### What is owed -/
end Go.Proofs.YtijnbpnficcpmaaDoor
/- The settling of one contract. -/
namespace Go.Proofs.YtijnbpnficcpmaaDoor
open Go Go.Gx Go.RowKit
set_option linter.unusedVariables false
set_option linter.unusedSimpArgs false

theorem r_pickF {P : Program} {ρ : Operand → Value} {w : World} {d : Option Tmp} {ty : TypeId} {pos : String} {af : Array Edge} {g : Option (Nat × Bool)} {c a b : Operand} (hc : ρ c = .bool false) : Go.Gx.Runs P ρ ⟨d, .pick c a b, ty, pos, af, g⟩ w (.ok (.value (ρ b)) w) := ⟨by simp [execOp, hc, asBool, pure, bind, Sem.bind]⟩
theorem kq_val {P : Program} {n : Nat} {ops : Array Oper} {Q : Post} {J : World → Prop} {o : Oper} {K : (Nat → Value) → World → Prop} {σ : Nat → Value} {w : World} {v : Value} (hw : wantS o ops n σ = true) (hrun : Go.Gx.Runs P (opv (cut n σ)) o w (.ok (.value v) w)) (hJ : J w) (k : K (updO σ o.dst v) w) : kq P n ops Q J o K σ w :=
  kq_valE (R := fun v' w' => v' = v ∧ w' = w) hw ⟨v, w, hrun, rfl, rfl⟩ (by rintro _ _ ⟨rfl, rfl⟩; exact ⟨hJ, k⟩)
theorem chargeI_rng {L : List GPosting} {id : Int} : -1 ≤ chargeI L id ∧ chargeI L id < L.length := by
  unfold chargeI
  rcases @chg_cases L id L.length with ⟨h, _⟩ | ⟨k, hk, h, _⟩ <;> rw [h] <;> omega
abbrev ledB (bl : Nat) (acc : Int) (v : Value) (cl : Int) (x : Bool) : Ob := .var bl 103 (blC acc v cl x)
theorem st_fin {w0 w2 : World} {a b c x : Ob} {ex : List Ob} (S : St w0 w2 (a :: b :: c :: (ex ++ [x]))) : St w0 w2 (a :: x :: ex) :=
  (S.perm ((List.perm_middle (a := a) (l₁ := [b, c]) (l₂ := ex ++ [x])).symm.trans (List.Perm.cons b (List.Perm.cons c (List.Perm.cons a (List.perm_append_singleton x ex)))))).tail.tail
def SetR (w0 : World) (bl : Nat) (acc cl : Int) (L : List GPosting) (c : GContract) (due day : Int) (ex : List Ob) (w' : World) : Prop :=
  match settleB acc cl L c due day with
  | some L' => ∃ v', St w0 w' (ledB bl acc v' cl false :: rowP v' L' :: ex)
  | none => St w0 w' (ledB bl 0 (.slice none 0 0) 0 true :: ex)
set_option maxRecDepth 20000 in
set_option maxHeartbeats 1000000 in
theorem settle_run {bl : Nat} {acc cl due day : Int} {L : List GPosting} {c : GContract} {v : Value} {ex : List Ob} {w0 w : World} (S : St w0 w (ledB bl acc v cl false :: rowP v L :: ex)) (hl : L.length ≤ 1000000000) (hs : 0 ≤ c.Sponsor ∧ c.Sponsor ≤ 1000000) :
    CallsW Tryd.prog 57 #[.pointer (some ⟨bl, 0, none⟩), .agg c.enc.toArray, .int .i64 due, .int .i64 day] w (fun _ w' => SetR w0 bl acc cl L c due day ex w') := by
  obtain ⟨A, c0, hz⟩ := (S.rdRow (D := fGPosting) (i := 1) rfl).len; subst hz
  obtain ⟨k, hk⟩ : ∃ k, chargeI L c.ID = k := ⟨_, rfl⟩
  have hkr := @chargeI_rng L c.ID
  rw [hk] at hkr
  refine CallsW.mk ?_
  refine calls_enter Tryd.func57 rfl (by intro _ h; first | exact nomatch h.1 | (obtain ⟨_, h, _⟩ := h; exact nomatch h)) Tryd.ntmps57 rfl ?_
  repeat' (first | refine WP_seq ?_ | refine WP_region ?_ | refine wl_nil ?_ | refine then_normal ?_ | (refine g_move ?_; refine st_move rfl ?_) | (refine g_assign ?_; refine st_assign rfl ?_) | (refine g_nilCheck ?_; refine st_val rfl (r_nilCheck rfl) ?_) | (refine g_fieldAddr ?_; refine st_val rfl (r_fieldAddrL rfl) ?_) | (refine g_load ?_; first | refine st_val rfl (r_loadVar (i := 1) S rfl rfl rfl) ?_ | refine st_val rfl (r_loadVarA (i := 1) S rfl rfl rfl rfl) ?_) | (refine g_box ?_; refine st_valE rfl (r_box S rfl) ?_; rintro _ w ⟨b, rfl, -, S'⟩; replace S := S'.front; clear S') | (refine g_alloc ?_; refine st_valE rfl (r_alloc S) ?_; rintro _ w ⟨b, rfl, -, S'⟩; replace S := S'.front; clear S') | (refine g_store ?_; first | (refine st_skipE rfl (r_storeVar (i := 0) S rfl rfl rfl rfl (of_decide_eq_true rfl) (of_decide_eq_true rfl)) ?_; intro w S'; replace S := S'; clear S') | (refine st_skipE rfl (r_storeVar (i := 1) S rfl rfl rfl rfl (of_decide_eq_true rfl) (of_decide_eq_true rfl)) ?_; intro w S'; replace S := S'; clear S') | (refine st_skipE rfl (r_storeVar (i := 2) S rfl rfl rfl rfl (of_decide_eq_true rfl) (of_decide_eq_true rfl)) ?_; intro w S'; replace S := S'; clear S') | (refine st_skipE rfl (r_storeVar (i := 3) S rfl rfl rfl rfl (of_decide_eq_true rfl) (of_decide_eq_true rfl)) ?_; intro w S'; replace S := S'; clear S')))
  refine st_callR rfl (r_call2 rfl rfl rfl) (charge_run (S.var (i := 2) rfl) (S.rdRow (D := fGPosting) (i := 3) rfl) hl) ?_
  rintro _ w hb rfl
  replace S := S.grow hb
  clear hb
  rw [hk]
  rename_i b5 _ _
  obtain ⟨b8, rfl⟩ : ∃ x, x = b := ⟨_, rfl⟩
  refine st_assign rfl ?_
  refine wl_nil ?_
  refine then_normal ?_
  replace S : St w0 w (.var b8 27 (bkV acc (.slice A L.length c0) cl) :: .var b5 70 c.enc :: ledB bl acc (.slice A L.length c0) cl false :: rowP (.slice A L.length c0) L :: ex) := S
  refine WP_then_cut (fun σ w1 => ∃ (e acc' cl' : Int) (A' : Option Addr) (n' c' : Nat) (M : List Ob), Has σ [(0, .pointer (some ⟨bl, 0, none⟩)), (8, .pointer (some ⟨b8, 0, none⟩)), (9, .int .i64 e)] ∧ St w0 w1 (.var b8 27 (bkV acc' (.slice A' n' c') cl') :: ledB bl acc (.slice A L.length c0) cl false :: M) ∧ ∀ w2, St w0 w2 (.var b8 27 (bkV acc' (.slice A' n' c') cl') :: ledB bl acc' (.slice A' n' c') cl' (!decide (e = 0)) :: M) → SetR w0 bl acc cl L c due day ex w2) ?_ ?_
  · have hnil : settleB acc cl L c due day = some L → ∀ w2, St w0 w2 (.var b8 27 (bkV acc (.slice A L.length c0) cl) :: ledB bl acc (.slice A L.length c0) cl (!decide ((0 : Int) = 0)) :: .var b5 70 c.enc :: rowP (.slice A L.length c0) L :: ex) → SetR w0 bl acc cl L c due day ex w2 := fun he w2 S2 => by
      unfold SetR; rw [he]; exact ⟨_, (S2.tail.perm (List.Perm.swap _ _ _)).tail⟩
    have hbad : settleB acc cl L c due day = none → ∀ w2, St w0 w2 (.var b8 27 (bkV 0 (.slice none 0 0) 0) :: ledB bl 0 (.slice none 0 0) 0 (!decide ((240 : Int) = 0)) :: .var b5 70 c.enc :: rowP (.slice A L.length c0) L :: ex) → SetR w0 bl acc cl L c due day ex w2 := fun he w2 S2 => by
      unfold SetR; rw [he]; exact S2.tail.sub (.cons_cons _ (.cons _ (.cons _ (List.Sublist.refl _))))
    have hgood : ∀ (L' : List GPosting) (v' : Value), settleB acc cl L c due day = some L' → ∀ w2, St w0 w2 (.var b8 27 (bkV acc v' cl) :: ledB bl acc v' cl (!decide ((0 : Int) = 0)) :: .var b5 70 c.enc :: rowP (.slice A L.length c0) L :: (ex ++ [rowP v' L'])) → SetR w0 bl acc cl L c due day ex w2 := fun L' v' he w2 S2 => by
      unfold SetR; rw [he]; exact ⟨_, st_fin S2.tail⟩
    by_cases h1 : 0 ≤ k
    · by_cases h2 : (nth L k).Amount = due
      · have he : settleB acc cl L c due day = some L := by unfold settleB; rw [hk, if_neg (fun h => h.2 h2), if_neg (fun h => by omega)]
        repeat' (first | refine WP_seq ?_ | refine WP_region ?_ | refine wl_nil ?_ | refine then_normal ?_ | refine inB_normal ?_ | refine WP_skip ?_ | refine WP_block ?_ | refine WP_condF rfl ?_ | (refine g_guard ?_; refine st_off rfl ?_) | (refine g_move ?_; refine st_move rfl ?_) | (refine g_assign ?_; refine st_assign rfl ?_) | (refine g_pick ?_; first | refine st_pickT rfl rfl ?_ | refine st_pickF rfl rfl ?_) | (refine g_b_neq ?_; refine st_val rfl (r_neq rfl rfl) ?_) | (refine g_b_lss ?_; refine st_val rfl (r_lss rfl rfl) ?_) | (refine g_b_geq ?_; refine st_val rfl (r_geq rfl rfl) ?_) | (refine g_nilCheck ?_; refine st_val rfl (r_nilCheck rfl) ?_) | (refine g_fieldAddr ?_; first | refine st_val rfl (r_fieldAddrL rfl) ?_ | refine st_val rfl (r_fieldAddr rfl) ?_) | (refine g_indexAddr ?_; (refine st_val rfl (r_indexAddr (S.rdRow (D := fGPosting) (i := 3) rfl) rfl rfl ?_ ?_) ?_; (first | omega | (simp <;> omega)); (first | omega | (simp <;> omega)))) | (refine g_load ?_; first | (refine st_val rfl (r_loadElemF (S.rdRow (D := fGPosting) (i := 3) rfl) rfl ?_ ?_ rfl) ?_; (first | omega | (simp <;> omega)); (first | omega | (simp <;> omega))) | refine st_val rfl (r_loadVar (i := 2) S rfl rfl rfl) ?_) | (refine wl_split rfl rfl (fun h => ?_) (fun h => ?_) <;> (fail_if_success (have hh : true = true := h)) <;> (fail_if_success (have hh : false = false := h)) <;> (try simp only [decide_eq_true_eq, decide_eq_false_iff_not, Bool.not_eq_true', Bool.not_eq_false', Int.not_lt, Int.not_le] at h) <;> (try (exfalso; omega))) | (refine WP_cond rfl (fun h => ?_) (fun h => ?_) <;> (fail_if_success (have hh : true = true := h)) <;> (fail_if_success (have hh : false = false := h)) <;> (try simp only [decide_eq_true_eq, decide_eq_false_iff_not, Bool.not_eq_true', Bool.not_eq_false', Int.not_lt, Int.not_le] at h) <;> (try (exfalso; omega))))
        exact ⟨0, acc, cl, _, _, _, _, ⟨rfl, rfl, rfl, trivial⟩, (S.perm (List.Perm.cons _ (List.Perm.swap _ _ _))), hnil he⟩
      · have he : settleB acc cl L c due day = if dispOk acc cl L k day due = true then some (dispL L k day due) else none := by unfold settleB; rw [hk, if_pos ⟨h1, h2⟩]
        repeat' (first | refine WP_seq ?_ | refine WP_region ?_ | refine wl_nil ?_ | refine then_normal ?_ | refine WP_block ?_ | (refine g_move ?_; refine st_move rfl ?_) | (refine g_assign ?_; refine st_assign rfl ?_) | (refine g_pick ?_; refine st_pickT rfl rfl ?_) | (refine g_b_neq ?_; refine st_val rfl (r_neq rfl rfl) ?_) | (refine g_b_geq ?_; refine st_val rfl (r_geq rfl rfl) ?_) | (refine g_nilCheck ?_; refine st_val rfl (r_nilCheck rfl) ?_) | (refine g_fieldAddr ?_; first | refine st_val rfl (r_fieldAddrL rfl) ?_ | refine st_val rfl (r_fieldAddr rfl) ?_) | (refine g_indexAddr ?_; (refine st_val rfl (r_indexAddr (S.rdRow (D := fGPosting) (i := 3) rfl) rfl rfl ?_ ?_) ?_; (first | omega | (simp <;> omega)); (first | omega | (simp <;> omega)))) | (refine g_load ?_; first | (refine st_val rfl (r_loadElemF (S.rdRow (D := fGPosting) (i := 3) rfl) rfl ?_ ?_ rfl) ?_; (first | omega | (simp <;> omega)); (first | omega | (simp <;> omega))) | refine st_val rfl (r_loadVar (i := 2) S rfl rfl rfl) ?_ | refine st_val rfl (r_loadVarA (i := 2) S rfl rfl rfl rfl) ?_) | (refine wl_split rfl rfl (fun h => ?_) (fun h => ?_) <;> (fail_if_success (have hh : true = true := h)) <;> (fail_if_success (have hh : false = false := h)) <;> (try simp only [decide_eq_true_eq, decide_eq_false_iff_not, Bool.not_eq_true', Bool.not_eq_false', Int.not_lt, Int.not_le] at h) <;> (try (exfalso; omega))) | (refine WP_cond rfl (fun h => ?_) (fun h => ?_) <;> (fail_if_success (have hh : true = true := h)) <;> (fail_if_success (have hh : false = false := h)) <;> (try simp only [decide_eq_true_eq, decide_eq_false_iff_not, Bool.not_eq_true', Bool.not_eq_false', Int.not_lt, Int.not_le] at h) <;> (try (exfalso; omega))))
        refine st_callR rfl (r_call4 rfl rfl rfl rfl rfl) (disp_run (acc := acc) (cl := cl) (i := k) (day := day) (amount := due) (S.rdRow (D := fGPosting) (i := 3) rfl) hl) ?_
        rintro r w hb hR
        unfold DispR at hR
        cases hD : dispOk acc cl L k day due with
        | false =>
          rw [hD, if_neg (by simp)] at hR he
          subst hR
          replace S := S.grow hb; clear hb
          repeat' (first | (refine g_move ?_; refine st_move rfl ?_) | (refine g_extract ?_; refine st_val rfl (r_extract rfl rfl) ?_))
          refine st_skipE rfl (r_storeVar (i := 0) S rfl rfl rfl rfl (of_decide_eq_true rfl) (of_decide_eq_true rfl)) ?_
          intro w S'; replace S := S'; clear S'
          repeat' (first | refine wl_nil ?_ | refine then_normal ?_ | refine inB_normal ?_ | (refine g_assign ?_; refine st_assign rfl ?_))
          exact ⟨240, 0, 0, _, _, _, _, ⟨rfl, rfl, rfl, trivial⟩, (S.perm (List.Perm.cons _ (List.Perm.swap _ _ _))), hbad he⟩
        | true =>
          rw [hD, if_pos rfl] at hR he
          obtain ⟨v2, rfl, S'⟩ := hR
          obtain ⟨A2, c2, hz⟩ := (S'.rdRow (D := fGPosting) (i := 0) rfl).len; subst hz
          replace S := S.join S'
          clear S' hb
          repeat' (first | refine wl_nil ?_ | refine then_normal ?_ | refine inB_normal ?_ | (refine g_move ?_; refine st_move rfl ?_) | (refine g_assign ?_; refine st_assign rfl ?_) | (refine g_extract ?_; refine st_val rfl (r_extract rfl rfl) ?_) | (refine g_store ?_; (refine st_skipE rfl (r_storeVar (i := 0) S rfl rfl rfl rfl (of_decide_eq_true rfl) (of_decide_eq_true rfl)) ?_; intro w S'; replace S := S'; clear S')))
          exact ⟨0, acc, cl, _, _, _, _, ⟨rfl, rfl, rfl, trivial⟩, (S.perm (List.Perm.cons _ (List.Perm.swap _ _ _))), hgood _ _ he⟩
    · by_cases h2 : 0 < due
      · have he : settleB acc cl L c due day = if postOk acc cl L (priceP day due c) = true then some (L ++ [priceP day due c]) else none := by unfold settleB; rw [hk, if_neg (fun h => h1 h.1), if_pos ⟨by omega, h2⟩]
        repeat' (first | refine WP_seq ?_ | refine WP_region ?_ | refine wl_nil ?_ | refine then_normal ?_ | refine WP_block ?_ | refine WP_condF rfl ?_ | (refine g_guard ?_; refine st_off rfl ?_) | (refine g_move ?_; refine st_move rfl ?_) | (refine g_assign ?_; refine st_assign rfl ?_) | (refine g_pick ?_; first | refine st_pickT rfl rfl ?_ | refine st_pickF rfl rfl ?_) | (refine g_b_lss ?_; refine st_val rfl (r_lss rfl rfl) ?_) | (refine g_b_gtr ?_; refine st_val rfl (r_gtr rfl rfl) ?_) | (refine g_b_geq ?_; refine st_val rfl (r_geq rfl rfl) ?_) | (refine wl_split rfl rfl (fun h => ?_) (fun h => ?_) <;> (fail_if_success (have hh : true = true := h)) <;> (fail_if_success (have hh : false = false := h)) <;> (try simp only [decide_eq_true_eq, decide_eq_false_iff_not, Bool.not_eq_true', Bool.not_eq_false', Int.not_lt, Int.not_le] at h) <;> (try (exfalso; omega))) | (refine WP_cond rfl (fun h => ?_) (fun h => ?_) <;> (fail_if_success (have hh : true = true := h)) <;> (fail_if_success (have hh : false = false := h)) <;> (try simp only [decide_eq_true_eq, decide_eq_false_iff_not, Bool.not_eq_true', Bool.not_eq_false', Int.not_lt, Int.not_le] at h) <;> (try (exfalso; omega))))
        have hsp : IntKind.i64.wrap (c.Sponsor + 1) = c.Sponsor + 1 := wrap_in (by omega) (by omega)
        refine WP_drawK (fun w' => St w0 w' [.var b5 70 c.enc, ledB bl acc (.slice A L.length c0) cl false]) [0, 1, 2, 3, 4, 5, 6, 7, 8, 9, 10, 11] 12 [13, 14, 15, 16] [17, 18] [] _ rfl (by kernel_rfl) (by decide) (by decide +kernel) (fun w' hb => (S.grow hb).sub (.cons _ (.cons_cons _ (.cons_cons _ (List.nil_sublist _))))) ?_
        intro w' hb; replace S := S.grow hb; clear hb
        repeat' (first | refine jq_nil ?_ | (refine gj_move ?_; refine jq_val rfl (fun w' hJ => ⟨rfl⟩) ?_) | (refine gj_assign ?_; refine jq_val rfl (fun w' hJ => ⟨rfl⟩) ?_) | (refine gj_b_add ?_; (refine jq_val rfl (fun w' hJ => r_addN rfl rfl ?_ ?_) ?_; (first | omega | (simp <;> omega)); (first | omega | (simp <;> omega)))) | (refine gj_build ?_; refine jq_val rfl (fun w' hJ => bd84_0_1_2_4_5_6 rfl rfl rfl rfl rfl rfl) ?_) | (refine gj_nilCheck ?_; refine jq_val rfl (fun w' hJ => r_nilCheck rfl) ?_) | (refine gj_fieldAddr ?_; refine jq_val rfl (fun w' hJ => r_fieldAddrL rfl) ?_) | (refine gj_load ?_; first | refine jq_val rfl (fun w' hJ => r_loadVar (i := 0) hJ rfl rfl rfl) ?_ | refine jq_val rfl (fun w' hJ => r_loadVarA (i := 1) hJ rfl rfl rfl rfl) ?_))
        refine kq_callR rfl (r_call2 rfl rfl rfl) (postB_run (acc := acc) (cl := cl) (p := priceP day due c) (S.rdRow (D := fGPosting) (i := 3) rfl) hl) ?_
        rintro r w hb hR
        unfold PostBR at hR
        cases hD : postOk acc cl L (priceP day due c) with
        | false =>
          rw [hD, if_neg (by simp)] at hR he
          subst hR
          replace S := S.grow hb; clear hb
          refine ⟨S.sub (.cons _ (.cons_cons _ (.cons_cons _ (List.nil_sublist _)))), ?_⟩
          repeat' (first | refine jq_nil ?_ | (refine gj_move ?_; refine jq_val rfl (fun w' hJ => ⟨rfl⟩) ?_) | (refine gj_assign ?_; refine jq_val rfl (fun w' hJ => ⟨rfl⟩) ?_) | (refine gj_extract ?_; refine jq_val rfl (fun w' hJ => r_extract rfl rfl) ?_))
          refine wj_skipE rfl (r_storeVar (i := 0) S rfl rfl rfl rfl (of_decide_eq_true rfl) (of_decide_eq_true rfl)) ?_
          intro w S'; refine ⟨S'.sub (.cons _ (.cons_cons _ (.cons_cons _ (List.nil_sublist _)))), ?_⟩; replace S := S'; clear S'
          refine wj_val rfl ⟨rfl⟩ (S.sub (.cons _ (.cons_cons _ (.cons_cons _ (List.nil_sublist _))))) ?_
          refine wj_nil ?_
          repeat' (first | refine wl_nil ?_ | refine then_normal ?_ | refine inB_normal ?_)
          exact ⟨240, 0, 0, _, _, _, _, ⟨rfl, rfl, rfl, trivial⟩, (S.perm (List.Perm.cons _ (List.Perm.swap _ _ _))), hbad he⟩
        | true =>
          rw [hD, if_pos rfl] at hR he
          obtain ⟨v2, rfl, S'⟩ := hR
          obtain ⟨A2, c2, hz⟩ := (S'.rdRow (D := fGPosting) (i := 0) rfl).len; subst hz
          replace S := S.join S'
          clear S' hb
          refine ⟨S.sub (.cons _ (.cons_cons _ (.cons_cons _ (List.nil_sublist _)))), ?_⟩
          repeat' (first | refine jq_nil ?_ | (refine gj_move ?_; refine jq_val rfl (fun w' hJ => ⟨rfl⟩) ?_) | (refine gj_assign ?_; refine jq_val rfl (fun w' hJ => ⟨rfl⟩) ?_) | (refine gj_extract ?_; refine jq_val rfl (fun w' hJ => r_extract rfl rfl) ?_))
          refine wj_skipE rfl (r_storeVar (i := 0) S rfl rfl rfl rfl (of_decide_eq_true rfl) (of_decide_eq_true rfl)) ?_
          intro w S'; refine ⟨S'.sub (.cons _ (.cons_cons _ (.cons_cons _ (List.nil_sublist _)))), ?_⟩; replace S := S'; clear S'
          refine wj_val rfl ⟨rfl⟩ (S.sub (.cons _ (.cons_cons _ (.cons_cons _ (List.nil_sublist _))))) ?_
          refine wj_nil ?_
          repeat' (first | refine wl_nil ?_ | refine then_normal ?_ | refine inB_normal ?_)
          exact ⟨0, acc, cl, _, _, _, _, ⟨rfl, rfl, rfl, trivial⟩, (S.perm (List.Perm.cons _ (List.Perm.swap _ _ _))), hgood _ _ he⟩
      · have he : settleB acc cl L c due day = some L := by unfold settleB; rw [hk, if_neg (fun h => h1 h.1), if_neg (fun h => h2 h.2)]
        repeat' (first | refine WP_seq ?_ | refine WP_region ?_ | refine wl_nil ?_ | refine then_normal ?_ | refine inB_normal ?_ | refine WP_skip ?_ | refine WP_block ?_ | refine WP_condF rfl ?_ | (refine g_guard ?_; refine st_off rfl ?_) | (refine g_move ?_; refine st_move rfl ?_) | (refine g_assign ?_; refine st_assign rfl ?_) | (refine g_pick ?_; first | refine st_pickT rfl rfl ?_ | refine st_pickF rfl rfl ?_) | (refine g_b_lss ?_; refine st_val rfl (r_lss rfl rfl) ?_) | (refine g_b_gtr ?_; refine st_val rfl (r_gtr rfl rfl) ?_) | (refine g_b_geq ?_; refine st_val rfl (r_geq rfl rfl) ?_) | (refine wl_split rfl rfl (fun h => ?_) (fun h => ?_) <;> (fail_if_success (have hh : true = true := h)) <;> (fail_if_success (have hh : false = false := h)) <;> (try simp only [decide_eq_true_eq, decide_eq_false_iff_not, Bool.not_eq_true', Bool.not_eq_false', Int.not_lt, Int.not_le] at h) <;> (try (exfalso; omega))) | (refine WP_cond rfl (fun h => ?_) (fun h => ?_) <;> (fail_if_success (have hh : true = true := h)) <;> (fail_if_success (have hh : false = false := h)) <;> (try simp only [decide_eq_true_eq, decide_eq_false_iff_not, Bool.not_eq_true', Bool.not_eq_false', Int.not_lt, Int.not_le] at h) <;> (try (exfalso; omega))))
        exact ⟨0, acc, cl, _, _, _, _, ⟨rfl, rfl, rfl, trivial⟩, (S.perm (List.Perm.cons _ (List.Perm.swap _ _ _))), hnil he⟩
  · clear S
    rintro σ w1 ⟨e, acc', cl', A', n', c', M, hs', S, hfin⟩
    refine WP_has hs' ?_
    refine WP_drawK (fun w' => St w0 w' [.var b8 27 (bkV acc' (.slice A' n' c') cl')]) [0, 1, 2, 3, 4, 5] 6 [7, 8, 9, 10, 11, 12] [13, 14, 15, 16] [] _ rfl (by kernel_rfl) (by decide) (by decide +kernel) (fun w' hb => (S.grow hb).sub (.cons_cons _ (List.nil_sublist _))) ?_
    intro w' hb; replace S := S.grow hb; clear hb
    repeat' (first | refine jq_nil ?_ | (refine gj_move ?_; refine jq_val rfl (fun w' hJ => ⟨rfl⟩) ?_) | (refine gj_assign ?_; refine jq_val rfl (fun w' hJ => ⟨rfl⟩) ?_) | (refine gj_nilCheck ?_; refine jq_val rfl (fun w' hJ => r_nilCheck rfl) ?_) | (refine gj_fieldAddr ?_; refine jq_val rfl (fun w' hJ => r_fieldAddrL rfl) ?_) | (refine gj_load ?_; refine jq_val rfl (fun w' hJ => r_loadVarA (i := 0) hJ rfl rfl rfl rfl) ?_))
    refine kq_val rfl (r_loadVar (i := 1) (u := .bool false) S rfl rfl rfl) (S.sub (.cons_cons _ (List.nil_sublist _))) ?_
    repeat' (first | (refine gj_move ?_; refine jq_val rfl (fun w' hJ => ⟨rfl⟩) ?_) | (refine gj_assign ?_; refine jq_val rfl (fun w' hJ => ⟨rfl⟩) ?_) | (refine gj_b_neq ?_; refine jq_val rfl (fun w' hJ => r_neq rfl rfl) ?_))
    refine jq_val rfl (fun w' hJ => r_pickF rfl) ?_
    repeat' (first | refine jq_nil ?_ | (refine gj_nilCheck ?_; refine jq_val rfl (fun w' hJ => r_nilCheck rfl) ?_) | (refine gj_fieldAddr ?_; refine jq_val rfl (fun w' hJ => r_fieldAddrL rfl) ?_))
    refine wj_skipE rfl (r_storeVar (i := 1) S rfl rfl rfl rfl (of_decide_eq_true rfl) (of_decide_eq_true rfl)) ?_
    intro w S'; refine ⟨S'.sub (.cons_cons _ (List.nil_sublist _)), ?_⟩; replace S := S'; clear S'
    refine wj_val rfl (r_nilCheck rfl) (S.sub (.cons_cons _ (List.nil_sublist _))) ?_
    refine wj_val rfl (r_fieldAddrL rfl) (S.sub (.cons_cons _ (List.nil_sublist _))) ?_
    refine wj_skipE rfl (r_storeVar (i := 1) S rfl rfl rfl rfl (of_decide_eq_true rfl) (of_decide_eq_true rfl)) ?_
    intro w S'; refine ⟨S'.sub (.cons_cons _ (List.nil_sublist _)), ?_⟩; replace S := S'; clear S'
    refine wj_nil ?_
    refine wl_nil ?_
    refine calm_normal ?_
    exact end0 rfl ⟨_, rfl, hfin _ S⟩
end Go.Proofs.YtijnbpnficcpmaaDoor
/- bill.Settle. -/
namespace Go.Proofs.YtijnbpnficcpmaaDoor
open Go Go.Gx Go.RowKit
set_option linter.unusedVariables false
set_option linter.unusedSimpArgs false

theorem cloneP_run {v : Value} {l : List GPosting} {w0 : World} (hr : Rd (fGPosting).ty w0 v l) (hl : l.length ≤ 1000000) : CallsR Tryd.prog 56 #[v] w0 fun v' w' => NewRow (fGPosting) 84 w0 w' v' l := by
  have S := St.start w0
  obtain ⟨A0, c, rfl⟩ := hr.len
  refine CallsR.mk ?_
  refine calls_enter Tryd.func56 rfl (by intro _ h; first | exact nomatch h.1 | (obtain ⟨_, h, _⟩ := h; exact nomatch h)) Tryd.ntmps56 rfl ?_
  cases A0 with
  | none =>
    have hl0 : l = [] := by
      obtain ⟨A1, c1, e, _, h⟩ := hr
      cases e
      rcases h with h | ⟨a, e, _⟩
      · exact h.1
      · cases e
    subst hl0
    repeat' (first | refine WP_seq ?_ | refine WP_region ?_ | refine wl_nil ?_ | refine then_normal ?_ | refine then_ret ?_ | refine WP_ret ?_ | refine WP_condT rfl ?_ | (refine g_move ?_; refine st_move rfl ?_) | (refine g_assign ?_; refine st_assign rfl ?_) | (refine g_b_eql ?_; refine st_val rfl (r_eqlNil rfl rfl) ?_))
    exact end1 rfl rfl ⟨_, rfl, S.below, NewRow.nil _ _ _ _⟩
  | some a0 =>
    repeat' (first | refine WP_seq ?_ | refine WP_region ?_ | refine wl_nil ?_ | refine then_normal ?_ | refine WP_skip ?_ | refine WP_condF rfl ?_ | (refine g_move ?_; refine st_move rfl ?_) | (refine g_assign ?_; refine st_assign rfl ?_) | (refine g_b_eql ?_; refine st_val rfl (r_eqlNil rfl rfl) ?_))
    refine st_valE rfl (r_lit0 (D := fGPosting) S) ?_
    rintro vn w ⟨-, S'⟩; replace S := S'; clear S'
    repeat' ((refine g_move ?_; refine st_move rfl ?_))
    refine st_valE rfl (r_appendRd (D := fGPosting) (i := 0) S rfl (hr.mono S.below) rfl rfl rfl (by decide) one_po (by simp; omega) (by simp; omega)) ?_
    rintro va' w ⟨-, S'⟩; replace S := S'; clear S'
    repeat' (first | refine wl_nil ?_ | refine then_normal ?_ | refine WP_ret ?_ | (refine g_assign ?_; refine st_assign rfl ?_))
    exact end1 rfl rfl ⟨_, rfl, S.below, S.row (i := 0) rfl⟩

theorem indexFuncC_spec {g : FuncId} [Enters Tryd.prog g] {cl : List Value} {p : GContract → Bool} {v : Value} {l : List GContract} {w : World} (hr : Rd fGContract.ty w v l) (hl : l.length ≤ 1000000000)
    (hp : ∀ x w', Below w.heap.size w w' → CallsV Tryd.prog g (.agg (GContract.enc x).toArray :: cl).toArray w' (.bool (p x))) :
    CallsV Tryd.prog 84 #[v, .func (.func g) #[] cl.toArray] w (.int .i64 (idxF p l)) := by
  have S := St.start w
  obtain ⟨A, c, rfl⟩ := hr.len
  refine CallsV.mk ?_
  refine calls_enter Tryd.func84 rfl (by intro _ h; first | exact nomatch h.1 | (obtain ⟨_, h, _⟩ := h; exact nomatch h)) Tryd.ntmps84 rfl ?_
  repeat' (first | refine WP_seq ?_ | refine WP_region ?_ | refine wl_nil ?_ | refine then_normal ?_ | refine WP_block ?_ | (refine g_move ?_; refine st_move rfl ?_) | (refine g_assign ?_; refine st_assign rfl ?_) | (refine g_c_len ?_; refine st_val rfl (r_lenSlice rfl) ?_))
  refine WP_loop (fun k σ w1 => ∃ i : Int, Has σ [(0, .slice A l.length c), (1, .func (.func g) #[] cl.toArray), (7, .int .i64 l.length), (8, .int .i64 i)] ∧ St w w1 [] ∧ 0 ≤ i ∧ i ≤ l.length ∧ k = l.length - i.toNat ∧ ∀ j, j < i.toNat → ∀ x, l[j]? = some x → p x = false) l.length ⟨0, ⟨rfl, rfl, rfl, rfl, trivial⟩, S, by omega, by omega, by omega, fun j hj => by omega⟩ ?_
  rintro k σ w1 ⟨i, hs, S, hi0, hi1, rfl, hnone⟩
  refine WP_has hs ?_
  repeat' (first | refine WP_seq ?_ | refine WP_region ?_ | refine wl_nil ?_ | refine then_normal ?_ | refine inB_normal ?_ | refine then_exit ?_ | refine inB_here ?_ | refine then_ret ?_ | refine inB_ret ?_ | refine WP_ret ?_ | refine WP_skip ?_ | refine WP_exit ?_ | refine WP_block ?_ | (refine g_move ?_; refine st_move rfl ?_) | (refine g_assign ?_; refine st_assign rfl ?_) | (refine g_b_add ?_; (refine st_val rfl (r_addN rfl rfl ?_ ?_) ?_; (first | omega | (simp <;> omega)); (first | omega | (simp <;> omega)))) | (refine g_b_lss ?_; refine st_val rfl (r_lss rfl rfl) ?_) | (refine g_indexAddr ?_; (refine st_val rfl (r_indexAddr (hr.mono S.below) rfl rfl ?_ ?_) ?_; (first | omega | (simp <;> omega)); (first | omega | (simp <;> omega)))) | (refine g_load ?_; (refine st_val rfl (r_loadElem (hr.mono S.below) rfl ?_ ?_) ?_; (first | omega | (simp <;> omega)); (first | omega | (simp <;> omega)))) | (refine g_callV ?_; (refine st_callV rfl (r_call1 rfl rfl) ((hp _ _ S.below)) ?_; intro w hb; replace S := S.grow hb; clear hb)) | (refine WP_cond rfl (fun h => ?_) (fun h => ?_) <;> (fail_if_success (have hh : true = true := h)) <;> (fail_if_success (have hh : false = false := h)) <;> (try simp only [decide_eq_true_eq, decide_eq_false_iff_not, Bool.not_eq_true', Bool.not_eq_false', Int.not_lt, Int.not_le] at h) <;> (try (exfalso; omega))))
  · refine end1 rfl rfl ⟨ri ?_, S.below⟩
    exact (idxF_hit hnone (nth_get (by omega) (by omega)) h (by omega)).symm
  · refine ⟨⟨_, ?_, i + 1, ⟨rfl, rfl, rfl, rfl, trivial⟩, S, by omega, by omega, rfl, fun j hj x hx => ?_⟩⟩
    · omega
    · by_cases e : j = i.toNat
      · subst e; rw [nth_get (by omega) (by omega)] at hx; cases hx; exact h
      · exact hnone j (by omega) x hx
  · refine end1 rfl rfl ⟨ri ?_, S.below⟩
    exact (idxF_none fun x hx => by
      obtain ⟨j, hj⟩ := List.getElem?_of_mem hx
      exact hnone j (by have := List.getElem?_eq_some_iff.1 hj; obtain ⟨hlt, _⟩ := this; omega) x hj).symm

theorem containsFuncC_spec {g : FuncId} [Enters Tryd.prog g] {cl : List Value} {p : GContract → Bool} {v : Value} {l : List GContract} {w : World} (hr : Rd fGContract.ty w v l) (hl : l.length ≤ 1000000000)
    (hp : ∀ x w', Below w.heap.size w w' → CallsV Tryd.prog g (.agg (GContract.enc x).toArray :: cl).toArray w' (.bool (p x))) :
    CallsV Tryd.prog 55 #[v, .func (.func g) #[] cl.toArray] w (.bool (l.any p)) := by
  have S := St.start w
  refine CallsV.mk ?_
  refine calls_enter Tryd.func55 rfl (by intro _ h; first | exact nomatch h.1 | (obtain ⟨_, h, _⟩ := h; exact nomatch h)) Tryd.ntmps55 rfl ?_
  repeat' (first | refine WP_seq ?_ | refine WP_region ?_ | refine wl_nil ?_ | refine then_normal ?_ | refine WP_ret ?_ | (refine g_move ?_; refine st_move rfl ?_) | (refine g_assign ?_; refine st_assign rfl ?_) | (refine g_b_geq ?_; refine st_val rfl (r_geq rfl rfl) ?_) | (refine g_callV ?_; (refine st_callV rfl (r_call2 rfl rfl rfl) (indexFuncC_spec (hr.mono S.below) hl (fun x w' hb => hp x w' (S.below.trans (hb.mono S.below.size)))) ?_; intro w hb; replace S := S.grow hb; clear hb)))
  all_goals (refine end1 rfl rfl ⟨rb ?_, S.below⟩; rw [idxF_any])


theorem str_spec {acc cl : Int} {v : Value} {b4 : Nat} {c : GContract} {w0 : World} (h4 : CellsAt w0 ⟨b4, 0, none⟩ (bkV acc v cl)) : CallsV Tryd.prog 53 #[.agg c.enc.toArray, .pointer (some ⟨b4, 0, none⟩)] w0 (.bool (decide (acc ≤ IntKind.i64.wrap (c.Sponsor + 1)))) := by
  have S := St.start w0
  refine CallsV.mk ?_
  refine calls_enter Tryd.func53 rfl (by intro _ h; first | exact nomatch h.1 | (obtain ⟨_, h, _⟩ := h; exact nomatch h)) Tryd.ntmps53 rfl ?_
  repeat' (first | refine WP_seq ?_ | refine WP_region ?_ | refine wl_nil ?_ | refine then_normal ?_ | refine WP_ret ?_ | (refine g_assign ?_; refine st_assign rfl ?_) | (refine g_b_add ?_; refine st_val rfl (r_add rfl rfl) ?_) | (refine g_b_geq ?_; refine st_val rfl (r_geq rfl rfl) ?_) | (refine g_fieldAddr ?_; refine st_val rfl (r_fieldAddrL rfl) ?_) | (refine g_load ?_; first | refine st_val rfl (r_loadAt (h4.mono S.below) rfl rfl) ?_ | refine st_val rfl (r_loadVar (i := 0) S rfl rfl rfl) ?_) | (refine g_box ?_; refine st_valE rfl (r_box S rfl) ?_; rintro _ w ⟨b, rfl, -, S'⟩; replace S := S'; clear S'))
  exact end1 rfl rfl ⟨rfl, S.below⟩
theorem bd103 {ρ : Operand → Value} {w : World} {d : Option Tmp} {ty : TypeId} {pos : String} {af : Array Edge} {g : Option (Nat × Bool)} {a0 : Operand} {acc cl : Int} {v : Value} (h0 : ρ a0 = .agg #[.int .i64 acc, v, .int .i64 cl]) :
    Go.Gx.Runs Tryd.prog ρ ⟨d, .build 103 #[(0, a0)], ty, pos, af, g⟩ w (.ok (.value (.agg (blC acc v cl false).toArray)) w) := ⟨by
  have e : (Instr.build 103 #[(0, .agg #[.int .i64 acc, v, .int .i64 cl])]).run Tryd.prog w = .ok (.agg (blC acc v cl false).toArray) w := by kernel_rfl
  simp only [execOp, List.map_toArray, List.map_cons, List.map_nil, h0]
  exact run_bind e⟩
theorem settleB_len {acc cl due day : Int} {L L' : List GPosting} {c : GContract} (h : settleB acc cl L c due day = some L') : L'.length ≤ L.length + 2 := by
  unfold settleB at h
  split at h
  · split at h
    · have h := Option.some.inj h
      rw [← h]; unfold dispL; split <;> simp
    · cases h
  · split at h
    · split at h
      · have h := Option.some.inj h
        rw [← h]; simp
      · cases h
    · have h := Option.some.inj h
      rw [← h]; omega
theorem drop_nthC {L : List GContract} {i : Int} (h0 : 0 ≤ i) (hi : i < L.length) : L.drop i.toNat = nth L i :: L.drop (i + 1).toNat := by
  have := nth_get (l := L) (i := i) h0 hi
  rw [List.drop_eq_getElem_cons (by omega), show (i + 1).toNat = i.toNat + 1 by omega]
  congr 1
  rw [List.getElem?_eq_getElem (by omega)] at this
  exact Option.some.inj this
theorem strB_any {acc : Int} {l : List GContract} (h : validC l = true) : l.any (fun c => decide (acc ≤ IntKind.i64.wrap (c.Sponsor + 1))) = strB acc l := by
  unfold strB
  rw [Bool.eq_iff_iff, List.any_eq_true, List.any_eq_true]
  have e : ∀ c ∈ l, IntKind.i64.wrap (c.Sponsor + 1) = c.Sponsor + 1 := fun c hc => by
    have := valid_ok h hc
    unfold okC okN at this
    simp only [Bool.and_eq_true, decide_eq_true_eq] at this
    exact wrap_in (by omega) (by omega)
  constructor
  · rintro ⟨c, hc, hd⟩; exact ⟨c, hc, by rw [← e c hc]; exact hd⟩
  · rintro ⟨c, hc, hd⟩; exact ⟨c, hc, by rw [e c hc]; exact hd⟩
def SettleR (w0 : World) (acc cl : Int) (L : List GPosting) (l : List GContract) (sp : List GSpot) (day : Int) (r : Value) (w' : World) : Prop :=
  match setI acc cl L l sp day with
  | some L' => BkR w0 acc cl L' [.int .i64 0] r w'
  | none => r = .tuple #[.agg (bkV 0 (.slice none 0 0) 0).toArray, .int .i64 390]
theorem due_is {l : List GContract} {sp : List GSpot} {r : List Int × Int} {v1 v2 : Value} {w0 : World} (h : dueI l sp = r) (hr1 : Rd fGContract.ty w0 v1 l) (hr2 : Rd fGSpot.ty w0 v2 sp) (hl1 : l.length ≤ 1000000000) (hl2 : sp.length ≤ 1000000000) (hG : TblAt w0) :
    CallsR Tryd.prog 18 #[v1, v2] w0 (RowE w0 r) := by rw [← h]; exact due_run hr1 hr2 hl1 hl2 hG
set_option maxRecDepth 20000 in
set_option maxHeartbeats 2000000 in
theorem Settle_run {acc cl day : Int} {L : List GPosting} {l : List GContract} {sp : List GSpot} {v v1 v2 : Value} {w0 : World} (hr : Rd fGPosting.ty w0 v L) (hr1 : Rd fGContract.ty w0 v1 l) (hr2 : Rd fGSpot.ty w0 v2 sp) (hl : L.length ≤ 1000000) (hl1 : l.length ≤ 1000000000) (hl2 : sp.length ≤ 1000000000) (hG : TblAt w0) :
    CallsR Tryd.prog 22 #[.agg (bkV acc v cl).toArray, v1, v2, .int .i64 day] w0 (SettleR w0 acc cl L l sp day) := by
  have S := St.start w0
  obtain ⟨A1, c1, rfl⟩ := hr1.len
  have hno : ∀ {r w'}, setI acc cl L l sp day = none → r = .tuple #[.agg (bkV 0 (.slice none 0 0) 0).toArray, .int .i64 390] → SettleR w0 acc cl L l sp day r w' := fun h e => by unfold SettleR; rw [h]; exact e
  refine CallsR.mk ?_
  refine calls_enter Tryd.func22 rfl (by intro _ h; first | exact nomatch h.1 | (obtain ⟨_, h, _⟩ := h; exact nomatch h)) Tryd.ntmps22 rfl ?_
  repeat' (first | refine WP_seq ?_ | refine WP_region ?_ | refine wl_nil ?_ | refine then_normal ?_ | (refine g_move ?_; refine st_move rfl ?_) | (refine g_assign ?_; refine st_assign rfl ?_) | (refine g_box ?_; refine st_valE rfl (r_box S rfl) ?_; rintro _ w ⟨b, rfl, -, S'⟩; replace S := S'; clear S') | (refine g_alloc ?_; refine st_valE rfl (r_alloc S) ?_; rintro _ w ⟨b, rfl, -, S'⟩; replace S := S'; clear S'))
  rename_i _ b4
  obtain ⟨b8, rfl⟩ : ∃ x, x = b := ⟨_, rfl⟩
  cases hok : okI l sp with
  | false =>
    have e : setI acc cl L l sp day = none := by unfold setI; rw [hok]; rfl
    refine st_callR rfl (r_call2 rfl rfl rfl) (due_is (r := ([], 390)) (by unfold dueI; rw [hok]; rfl) (hr1.mono S.below) (hr2.mono S.below) hl1 hl2 (hG.mono S.below)) ?_
    rintro _ w hb ⟨vd, rfl, hrow⟩
    replace S := S.new hb hrow; clear hb hrow
    repeat' (first | refine WP_seq ?_ | refine WP_region ?_ | refine wl_nil ?_ | refine then_normal ?_ | refine then_ret ?_ | refine WP_ret ?_ | refine WP_condT rfl ?_ | (refine g_guard ?_; refine st_off rfl ?_) | (refine g_move ?_; refine st_move rfl ?_) | (refine g_assign ?_; refine st_assign rfl ?_) | (refine g_pick ?_; refine st_pickT rfl rfl ?_) | (refine g_b_neq ?_; refine st_val rfl (r_neq rfl rfl) ?_) | (refine g_build ?_; refine st_val rfl (bd27_ ) ?_) | (refine g_extract ?_; refine st_val rfl (r_extract rfl rfl) ?_) | (refine g_makeFunc ?_; refine st_val rfl (r_makeFn1 rfl) ?_) | (refine g_store ?_; first | (refine st_skipE rfl (r_storeVar (i := 0) S rfl rfl rfl rfl (of_decide_eq_true rfl) (of_decide_eq_true rfl)) ?_; intro w S'; replace S := S'; clear S') | (refine st_skipE rfl (r_storeVar (i := 1) S rfl rfl rfl rfl (of_decide_eq_true rfl) (of_decide_eq_true rfl)) ?_; intro w S'; replace S := S'; clear S')))
    exact endCT rfl rfl rfl S (i := 1) rfl rfl ⟨_, rfl, S.below, hno e rfl⟩
  | true =>
  obtain ⟨h1, h2⟩ := okI_t hok
  have hl12 := validC_len h1
  refine st_callR rfl (r_call2 rfl rfl rfl) (due_is (r := (dueL l sp, 0)) (by unfold dueI; rw [hok]; rfl) (hr1.mono S.below) (hr2.mono S.below) hl1 hl2 (hG.mono S.below)) ?_
  rintro _ w hb ⟨vd, rfl, hrow⟩
  replace S := S.new hb hrow; clear hb hrow
  cases hv : validBk acc cl L with
  | false =>
    have e : setI acc cl L l sp day = none := by unfold setI; rw [hv]; simp
    repeat' (first | refine WP_seq ?_ | refine WP_region ?_ | refine wl_nil ?_ | refine then_normal ?_ | refine then_ret ?_ | refine WP_ret ?_ | refine WP_condT rfl ?_ | (refine g_guard ?_; refine st_off rfl ?_) | (refine g_move ?_; refine st_move rfl ?_) | (refine g_assign ?_; refine st_assign rfl ?_) | (refine g_pick ?_; first | refine st_pickT rfl rfl ?_ | refine st_pickF rfl rfl ?_) | (refine g_b_neq ?_; refine st_val rfl (r_neq rfl rfl) ?_) | (refine g_build ?_; refine st_val rfl (bd27_ ) ?_) | (refine g_un ?_; refine st_val rfl (r_not rfl) ?_) | (refine g_extract ?_; refine st_val rfl (r_extract rfl rfl) ?_) | (refine g_makeFunc ?_; refine st_val rfl (r_makeFn1 rfl) ?_) | (refine g_load ?_; refine st_val rfl (r_loadVarA (i := 0) S rfl rfl rfl rfl) ?_) | (refine g_callV ?_; (refine st_callV rfl (r_call1 rfl rfl) (validBk_is hv (hr.mono S.below) (by omega)) ?_; intro w hb; replace S := S.grow hb; clear hb)) | (refine g_store ?_; first | (refine st_skipE rfl (r_storeVar (i := 0) S rfl rfl rfl rfl (of_decide_eq_true rfl) (of_decide_eq_true rfl)) ?_; intro w S'; replace S := S'; clear S') | (refine st_skipE rfl (r_storeVar (i := 1) S rfl rfl rfl rfl (of_decide_eq_true rfl) (of_decide_eq_true rfl)) ?_; intro w S'; replace S := S'; clear S')))
    exact endCT rfl rfl rfl S (i := 1) rfl rfl ⟨_, rfl, S.below, hno e rfl⟩
  | true =>
  cases hst : strB acc l with
  | true =>
    have e : setI acc cl L l sp day = none := by unfold setI; rw [hst]; simp
    rw [← strB_any h1] at hst
    repeat' (first | refine WP_seq ?_ | refine WP_region ?_ | refine wl_nil ?_ | refine then_normal ?_ | refine then_ret ?_ | refine WP_ret ?_ | refine WP_condT rfl ?_ | (refine g_move ?_; refine st_move rfl ?_) | (refine g_assign ?_; refine st_assign rfl ?_) | (refine g_pick ?_; refine st_pickF rfl rfl ?_) | (refine g_b_neq ?_; refine st_val rfl (r_neq rfl rfl) ?_) | (refine g_build ?_; refine st_val rfl (bd27_ ) ?_) | (refine g_un ?_; refine st_val rfl (r_not rfl) ?_) | (refine g_extract ?_; refine st_val rfl (r_extract rfl rfl) ?_) | (refine g_makeFunc ?_; refine st_val rfl (r_makeFn1 rfl) ?_) | (refine g_load ?_; refine st_val rfl (r_loadVarA (i := 0) S rfl rfl rfl rfl) ?_) | (refine g_callV ?_; first | (refine st_callV rfl (r_call1 rfl rfl) (validBk_is hv (hr.mono S.below) (by omega)) ?_; intro w hb; replace S := S.grow hb; clear hb) | (refine st_callV rfl (r_call2 rfl rfl rfl) ((hst ▸ containsFuncC_spec (g := 53) (cl := [.pointer (some ⟨b4, 0, none⟩)]) (hr1.mono S.below) hl1 (fun x w' hbb => str_spec ((S.var (i := 0) rfl).mono hbb)))) ?_; intro w hb; replace S := S.grow hb; clear hb)) | (refine g_store ?_; first | (refine st_skipE rfl (r_storeVar (i := 0) S rfl rfl rfl rfl (of_decide_eq_true rfl) (of_decide_eq_true rfl)) ?_; intro w S'; replace S := S'; clear S') | (refine st_skipE rfl (r_storeVar (i := 1) S rfl rfl rfl rfl (of_decide_eq_true rfl) (of_decide_eq_true rfl)) ?_; intro w S'; replace S := S'; clear S')))
    exact endCT rfl rfl rfl S (i := 1) rfl rfl ⟨_, rfl, S.below, hno e rfl⟩
  | false =>
  have eS : setI acc cl L l sp day = setL acc cl day (dueC (cntS l sp)) l L := by unfold setI; rw [hok, hv, hst]; rfl
  rw [← strB_any h1] at hst
  repeat' (first | refine WP_seq ?_ | refine WP_region ?_ | refine wl_nil ?_ | refine then_normal ?_ | refine WP_skip ?_ | refine WP_condF rfl ?_ | (refine g_move ?_; refine st_move rfl ?_) | (refine g_assign ?_; refine st_assign rfl ?_) | (refine g_pick ?_; refine st_pickF rfl rfl ?_) | (refine g_b_neq ?_; refine st_val rfl (r_neq rfl rfl) ?_) | (refine g_un ?_; refine st_val rfl (r_not rfl) ?_) | (refine g_extract ?_; refine st_val rfl (r_extract rfl rfl) ?_) | (refine g_makeFunc ?_; refine st_val rfl (r_makeFn1 rfl) ?_) | (refine g_load ?_; refine st_val rfl (r_loadVarA (i := 0) S rfl rfl rfl rfl) ?_) | (refine g_callV ?_; first | (refine st_callV rfl (r_call1 rfl rfl) (validBk_is hv (hr.mono S.below) (by omega)) ?_; intro w hb; replace S := S.grow hb; clear hb) | (refine st_callV rfl (r_call2 rfl rfl rfl) ((hst ▸ containsFuncC_spec (g := 53) (cl := [.pointer (some ⟨b4, 0, none⟩)]) (hr1.mono S.below) hl1 (fun x w' hbb => str_spec ((S.var (i := 0) rfl).mono hbb)))) ?_; intro w hb; replace S := S.grow hb; clear hb)))
  repeat' (first | (refine WP_drawJ (fun w' => St w0 w' [.var b4 27 (bkV acc v cl)]) [0,1,2,3,5,6] [4,7,8] [9,10] (by kernel_rfl) (by decide) (by decide +kernel) (fun w' hb => (S.grow hb).keep [true]) ?_; intro w hb; replace S := S.grow hb; clear hb) | refine jq_nil ?_ | (refine gj_fieldAddr ?_; refine jq_val rfl (fun w' hJ => r_fieldAddrL rfl) ?_) | (refine gj_load ?_; refine jq_val rfl (fun w' hJ => r_loadVar (i := 0) hJ rfl rfl rfl) ?_))
  refine wj_callR rfl (r_call1 rfl rfl) (cloneP_run (hr.mono S.below) hl) ?_
  rintro v3 w hb hrow; replace S := S.new hb hrow; clear hb hrow
  refine ⟨S.keep [true], ?_⟩
  obtain ⟨A3, c3, hz⟩ := (S.rdRow (D := fGPosting) (i := 3) rfl).len; subst hz
  repeat' ((refine gw_build ?_; refine wj_val rfl (bd27_0_1_2 rfl rfl rfl) (S.keep [true]) ?_))
  refine wj_val rfl (bd103 (acc := acc) (cl := cl) (v := .slice A3 L.length c3) rfl) (S.keep [true]) ?_
  refine wj_nil ?_
  repeat' (first | refine WP_seq ?_ | refine WP_region ?_ | refine wl_nil ?_ | refine then_normal ?_ | refine WP_block ?_ | (refine g_move ?_; refine st_move rfl ?_) | (refine g_assign ?_; refine st_assign rfl ?_) | (refine g_c_len ?_; refine st_val rfl (r_lenSlice rfl) ?_) | (refine g_box ?_; refine st_valE rfl (r_box S rfl) ?_; rintro _ w ⟨b, rfl, -, S'⟩; replace S := S'; clear S'))
  obtain ⟨bl, rfl⟩ : ∃ x, x = b := ⟨_, rfl⟩
  replace S : St w0 w [.var b4 27 (bkV acc v cl), .var b8 27 (bkV 0 (.slice none 0 0) 0), rowOb (fInt .i64) 3 vd (dueL l sp), rowP (.slice A3 L.length c3) L, ledB bl acc (.slice A3 L.length c3) cl false] := S
  obtain ⟨A2, c2, hz⟩ := (S.rdRow (D := fInt .i64) (i := 2) rfl).len; subst hz
  have hll := allT_len (by unfold validBk at hv; exact (Bool.and_eq_true_iff.1 hv).1)
  refine WP_loop (fun m σ w1 => ∃ (i : Int) (v' : Value) (Lc : List GPosting), Has σ [(3, .int .i64 day), (8, .pointer (some ⟨b8, 0, none⟩)), (10, .slice A2 (dueL l sp).length c2), (13, .pointer (some ⟨bl, 0, none⟩)), (46, .slice A1 l.length c1), (47, .int .i64 l.length), (48, .int .i64 i)] ∧ St w0 w1 [ledB bl acc v' cl false, rowP v' Lc, .var b8 27 (bkV 0 (.slice none 0 0) 0), rowOb (fInt .i64) 3 (.slice A2 (dueL l sp).length c2) (dueL l sp)] ∧ 0 ≤ i ∧ i ≤ l.length ∧ Lc.length ≤ 200 + 2 * i ∧ setL acc cl day (dueC (cntS l sp)) (l.drop i.toNat) Lc = setL acc cl day (dueC (cntS l sp)) l L ∧ m = l.length - i.toNat) l.length ⟨0, _, L, ⟨rfl, rfl, rfl, rfl, rfl, rfl, rfl, trivial⟩, (S.perm ((List.perm_append_comm (l₁ := [_, _, _]) (l₂ := [_, _])).trans ((List.Perm.swap _ _ _).trans (List.Perm.cons _ (List.Perm.cons _ (List.perm_append_comm (l₁ := [_]) (l₂ := [_, _]))))))).keep [true, true, true, true], by omega, by omega, by omega, rfl, by omega⟩ ?_
  clear S
  rintro m σ w1 ⟨i, v', Lc, hs, S, hi0, hi1, hlc, hset, rfl⟩
  refine WP_has hs ?_
  by_cases hi : i < l.length
  · have hdue := dueL_at (l := l) (sp := sp) hi0 hi
    have hdl := @dueL_len l sp
    have hsp : 0 ≤ (nth l i).Sponsor ∧ (nth l i).Sponsor ≤ 1000000 := by
      have := valid_ok h1 (nth_mem hi0 hi)
      unfold okC okN at this
      simp only [Bool.and_eq_true, decide_eq_true_eq] at this
      omega
    rw [drop_nthC hi0 hi, setL] at hset
    repeat' (first | refine WP_seq ?_ | refine WP_region ?_ | refine wl_nil ?_ | refine then_normal ?_ | refine WP_skip ?_ | refine WP_block ?_ | refine WP_drawTail 7 (by kernel_rfl) (by decide +kernel) ?_ | (refine ql_nil ?_; intro w hb; replace S := S.grow hb; clear hb) | (refine g_move ?_; refine st_move rfl ?_) | (refine g_assign ?_; refine st_assign rfl ?_) | (refine g_b_lss ?_; refine st_val rfl (r_lss rfl rfl) ?_) | (refine g_indexAddr ?_; (refine st_val rfl (r_indexAddr (hr1.mono S.below) rfl rfl ?_ ?_) ?_; (first | omega | (simp <;> omega)); (first | omega | (simp <;> omega)))) | (refine g_load ?_; (refine st_val rfl (r_loadElem (hr1.mono S.below) rfl ?_ ?_) ?_; (first | omega | (simp <;> omega)); (first | omega | (simp <;> omega)))) | (refine gq_move ?_; refine q_move rfl ?_) | (refine gq_indexAddr ?_; (refine q_val rfl (fun w' hb => r_indexAddr ((S.grow hb).rdRow (D := (fInt .i64)) (i := 3) rfl) rfl rfl ?_ ?_) ?_; (first | omega | (simp <;> omega)); (first | omega | (simp <;> omega)))) | (refine gq_load ?_; first | (refine q_val rfl (fun w' hb => r_loadElem1 ((S.grow hb).rdRow (D := (fInt .i64)) (i := 3) rfl) rfl ?_ ?_ rfl) ?_; (first | omega | (simp <;> omega)); (first | omega | (simp <;> omega))) | refine q_val rfl (fun w' hb => r_loadVarA (i := 4) (S.grow hb) rfl rfl rfl rfl) ?_) | (refine g_alloc ?_; refine st_valE rfl (r_alloc S) ?_; rintro _ w ⟨b, rfl, -, S'⟩; replace S := S'; clear S') | (refine g_store ?_; first | (refine st_skipE rfl (r_storeVar (i := 0) S rfl rfl rfl rfl (of_decide_eq_true rfl) (of_decide_eq_true rfl)) ?_; intro w S'; replace S := S'; clear S') | (refine st_skipE rfl (r_storeVar (i := 1) S rfl rfl rfl rfl (of_decide_eq_true rfl) (of_decide_eq_true rfl)) ?_; intro w S'; replace S := S'; clear S') | (refine st_skipE rfl (r_storeVar (i := 2) S rfl rfl rfl rfl (of_decide_eq_true rfl) (of_decide_eq_true rfl)) ?_; intro w S'; replace S := S'; clear S') | (refine st_skipE rfl (r_storeVar (i := 3) S rfl rfl rfl rfl (of_decide_eq_true rfl) (of_decide_eq_true rfl)) ?_; intro w S'; replace S := S'; clear S') | (refine st_skipE rfl (r_storeVar (i := 4) S rfl rfl rfl rfl (of_decide_eq_true rfl) (of_decide_eq_true rfl)) ?_; intro w S'; replace S := S'; clear S')) | (refine WP_cond rfl (fun h => ?_) (fun h => ?_) <;> (fail_if_success (have hh : true = true := h)) <;> (fail_if_success (have hh : false = false := h)) <;> (try simp only [decide_eq_true_eq, decide_eq_false_iff_not, Bool.not_eq_true', Bool.not_eq_false', Int.not_lt, Int.not_le] at h) <;> (try (exfalso; omega))))
    refine st_callW rfl (r_call4 rfl rfl rfl rfl rfl) (settle_run (bl := bl) (c := nth l i) (due := nth (dueL l sp) i) (day := day) S (by omega) hsp) ?_
    clear S
    rintro _ w hS
    unfold SetR at hS
    rw [hdue] at hS
    cases hb : settleB acc cl Lc (nth l i) (dueC (cntS l sp) (nth l i)) day with
    | none =>
      rw [hb] at hS hset
      have S := hS
      have e : setI acc cl L l sp day = none := by rw [eS, ← hset]
      replace S : St w0 w [ledB bl 0 (.slice none 0 0) 0 true, .var b8 27 (bkV 0 (.slice none 0 0) 0), rowOb (fInt .i64) 3 (.slice A2 (dueL l sp).length c2) (dueL l sp), _] := S
      repeat' (first | refine WP_seq ?_ | refine WP_region ?_ | refine wl_nil ?_ | refine then_normal ?_ | refine then_ret ?_ | refine inB_ret ?_ | refine WP_ret ?_ | refine WP_condT rfl ?_ | (refine g_move ?_; refine st_move rfl ?_) | (refine g_assign ?_; refine st_assign rfl ?_) | (refine g_build ?_; refine st_val rfl (bd27_ ) ?_) | (refine g_nilCheck ?_; refine st_val rfl (r_nilCheck rfl) ?_) | (refine g_fieldAddr ?_; refine st_val rfl (r_fieldAddrL rfl) ?_) | (refine g_load ?_; refine st_val rfl (r_loadVar (i := 0) S rfl rfl rfl) ?_) | (refine g_store ?_; first | (refine st_skipE rfl (r_storeVar (i := 0) S rfl rfl rfl rfl (of_decide_eq_true rfl) (of_decide_eq_true rfl)) ?_; intro w S'; replace S := S'; clear S') | (refine st_skipE rfl (r_storeVar (i := 1) S rfl rfl rfl rfl (of_decide_eq_true rfl) (of_decide_eq_true rfl)) ?_; intro w S'; replace S := S'; clear S')))
      exact endCT rfl rfl rfl S (i := 1) rfl rfl ⟨_, rfl, S.below, hno e rfl⟩
    | some L' =>
      have hle := settleB_len hb
      rw [hb] at hS hset
      obtain ⟨v2, S⟩ := hS
      repeat' (first | refine WP_seq ?_ | refine WP_region ?_ | refine wl_nil ?_ | refine then_normal ?_ | refine inB_normal ?_ | refine WP_skip ?_ | refine WP_condF rfl ?_ | (refine g_move ?_; refine st_move rfl ?_) | (refine g_b_add ?_; (refine st_val rfl (r_addN rfl rfl ?_ ?_) ?_; (first | omega | (simp <;> omega)); (first | omega | (simp <;> omega)))) | (refine g_nilCheck ?_; refine st_val rfl (r_nilCheck rfl) ?_) | (refine g_fieldAddr ?_; refine st_val rfl (r_fieldAddrL rfl) ?_) | (refine g_load ?_; refine st_val rfl (r_loadVar (i := 0) S rfl rfl rfl) ?_))
      refine ⟨⟨_, ?_, i + 1, v2, L', ⟨rfl, rfl, rfl, rfl, rfl, rfl, rfl, trivial⟩, S.keep [true, true, true, true], by omega, by omega, by omega, hset, rfl⟩⟩
      omega
  · have hil : i.toNat = l.length := by omega
    rw [hil, List.drop_length, setL] at hset
    obtain ⟨A5, c5, hz⟩ := (S.rdRow (D := fGPosting) (i := 1) rfl).len; subst hz
    repeat' (first | refine WP_seq ?_ | refine WP_region ?_ | refine wl_nil ?_ | refine then_normal ?_ | refine then_exit ?_ | refine inB_here ?_ | refine WP_ret ?_ | refine WP_exit ?_ | (refine g_move ?_; refine st_move rfl ?_) | (refine g_assign ?_; refine st_assign rfl ?_) | (refine g_b_lss ?_; refine st_val rfl (r_lss rfl rfl) ?_) | (refine g_nilCheck ?_; refine st_val rfl (r_nilCheck rfl) ?_) | (refine g_fieldAddr ?_; refine st_val rfl (r_fieldAddrL rfl) ?_) | (refine g_load ?_; refine st_val rfl (r_loadVarA (i := 0) S rfl rfl rfl rfl) ?_) | (refine g_store ?_; first | (refine st_skipE rfl (r_storeVar (i := 0) S rfl rfl rfl rfl (of_decide_eq_true rfl) (of_decide_eq_true rfl)) ?_; intro w S'; replace S := S'; clear S') | (refine st_skipE rfl (r_storeVar (i := 1) S rfl rfl rfl rfl (of_decide_eq_true rfl) (of_decide_eq_true rfl)) ?_; intro w S'; replace S := S'; clear S') | (refine st_skipE rfl (r_storeVar (i := 2) S rfl rfl rfl rfl (of_decide_eq_true rfl) (of_decide_eq_true rfl)) ?_; intro w S'; replace S := S'; clear S')) | (refine WP_cond rfl (fun h => ?_) (fun h => ?_) <;> (fail_if_success (have hh : true = true := h)) <;> (fail_if_success (have hh : false = false := h)) <;> (try simp only [decide_eq_true_eq, decide_eq_false_iff_not, Bool.not_eq_true', Bool.not_eq_false', Int.not_lt, Int.not_le] at h) <;> (try (exfalso; omega))))
    refine endCT rfl rfl rfl S (i := 2) rfl rfl ⟨_, rfl, S.below, ?_⟩
    unfold SettleR
    rw [eS, ← hset]
    exact ⟨_, rfl, S.keep [false, true]⟩
end Go.Proofs.YtijnbpnficcpmaaDoor
/- The examples. -/
namespace Go.Proofs.YtijnbpnficcpmaaDoor
open Go Go.Gx Go.RowKit
set_option linter.unusedVariables false
set_option linter.unusedSimpArgs false

theorem wl_forget {P : Program} {n : Nat} {ops : Array Oper} {Q : Post} {σ : Nat → Value} {w : World} {rest : List Oper} (L : List (Nat × Value)) (h : Has σ L) (k : ∀ σ', Has σ' L → wl P n ops Q rest σ' w) : wl P n ops Q rest σ w := k σ h
abbrev allW : GWeek := ⟨16777215, 16777215, 16777215, 16777215, 16777215, 16777215, 16777215⟩
set_option maxHeartbeats 1000000 in
theorem every_spec {w0 : World} : CallsV Tryd.prog 38 #[] w0 (.agg allW.enc.toArray) := by
  have S := St.start w0
  refine CallsV.mk ?_
  refine calls_enter Tryd.func38 rfl (by intro _ h; first | exact nomatch h.1 | (obtain ⟨_, h, _⟩ := h; exact nomatch h)) Tryd.ntmps38 rfl ?_
  repeat' (first | refine WP_seq ?_ | refine WP_region ?_ | refine wl_nil ?_ | refine then_normal ?_ | refine WP_block ?_ | (refine g_assign ?_; refine st_assign rfl ?_) | (refine g_alloc ?_; refine st_valE rfl (r_alloc S) ?_; rintro _ w ⟨b, rfl, -, S'⟩; replace S := S'; clear S'))
  rename_i _ b0
  obtain ⟨b1, rfl⟩ : ∃ x, x = b := ⟨_, rfl⟩
  refine WP_loop (fun m σ w1 => ∃ (d : Nat) (q : Int), Has σ [(0, .pointer (some ⟨b0, 0, none⟩)), (1, .pointer (some ⟨b1, 0, none⟩)), (2, .int .i64 q)] ∧ St w0 w1 [.var b0 66 (GWeek.enc ⟨0, 0, 0, 0, 0, 0, 0⟩), .var b1 66 (GWeek.enc (wkN (fun _ => 16777215) d))] ∧ q = d ∧ d ≤ 7 ∧ m = 7 - d) 7 ⟨0, _, ⟨rfl, rfl, rfl, trivial⟩, S, rfl, by omega, rfl⟩ ?_
  clear S
  rintro m σ w1 ⟨d, q, hs, S, hq, hd7, hm⟩
  refine WP_has hs ?_
  by_cases hd : d = 7
  · subst hd
    have hq : q = 7 := by omega
    subst hq
    repeat' (first | refine WP_seq ?_ | refine WP_region ?_ | refine wl_nil ?_ | refine then_normal ?_ | refine then_exit ?_ | refine inB_here ?_ | refine WP_ret ?_ | refine WP_exit ?_ | refine WP_condF rfl ?_ | (refine g_move ?_; refine st_move rfl ?_) | (refine g_b_lss ?_; refine st_val rfl (r_lss rfl rfl) ?_) | (refine g_load ?_; refine st_val rfl (r_loadVarA (i := 1) S rfl rfl rfl rfl) ?_) | (refine g_store ?_; first | (refine st_skipE rfl (r_storeVar (i := 0) S rfl rfl rfl rfl (of_decide_eq_true rfl) (of_decide_eq_true rfl)) ?_; intro w S'; replace S := S'; clear S') | (refine st_skipE rfl (r_storeVar (i := 1) S rfl rfl rfl rfl (of_decide_eq_true rfl) (of_decide_eq_true rfl)) ?_; intro w S'; replace S := S'; clear S')))
    exact endCellA rfl rfl S (i := 0) rfl rfl ⟨rfl, S.below⟩
  have hdc : d = 0 ∨ d = 1 ∨ d = 2 ∨ d = 3 ∨ d = 4 ∨ d = 5 ∨ d = 6 := by omega
  rcases hdc with rfl | rfl | rfl | rfl | rfl | rfl | rfl
  · have hq : q = 0 := by omega
    subst hq
    repeat' (first | refine WP_seq ?_ | refine WP_region ?_ | refine wl_nil ?_ | refine then_normal ?_ | refine inB_normal ?_ | refine WP_skip ?_ | refine WP_block ?_ | refine WP_condT rfl ?_ | (refine g_move ?_; refine st_move rfl ?_) | (refine g_assign ?_; refine st_assign rfl ?_) | (refine g_b_add ?_; (refine st_val rfl (r_addN rfl rfl ?_ ?_) ?_; (first | omega | (simp <;> omega)); (first | omega | (simp <;> omega)))) | (refine g_b_lss ?_; refine st_val rfl (r_lss rfl rfl) ?_) | (refine g_indexAddr ?_; (refine st_val rfl (r_indexAddrArrL rfl rfl ?_ ?_) ?_; (first | omega | (simp <;> omega)); (first | omega | (simp <;> omega)))) | (refine g_store ?_; first | (refine st_skipE rfl (r_storeVar (i := 0) S rfl rfl rfl rfl (of_decide_eq_true rfl) (of_decide_eq_true rfl)) ?_; intro w S'; replace S := S'; clear S') | (refine st_skipE rfl (r_storeVar (i := 1) S rfl rfl rfl rfl (of_decide_eq_true rfl) (of_decide_eq_true rfl)) ?_; intro w S'; replace S := S'; clear S')))
    exact ⟨⟨_, by omega, 1, _, ⟨rfl, rfl, rfl, trivial⟩, S, by omega, by omega, rfl⟩⟩
  · have hq : q = 1 := by omega
    subst hq
    repeat' (first | refine WP_seq ?_ | refine WP_region ?_ | refine wl_nil ?_ | refine then_normal ?_ | refine inB_normal ?_ | refine WP_skip ?_ | refine WP_block ?_ | refine WP_condT rfl ?_ | (refine g_move ?_; refine st_move rfl ?_) | (refine g_assign ?_; refine st_assign rfl ?_) | (refine g_b_add ?_; (refine st_val rfl (r_addN rfl rfl ?_ ?_) ?_; (first | omega | (simp <;> omega)); (first | omega | (simp <;> omega)))) | (refine g_b_lss ?_; refine st_val rfl (r_lss rfl rfl) ?_) | (refine g_indexAddr ?_; (refine st_val rfl (r_indexAddrArrL rfl rfl ?_ ?_) ?_; (first | omega | (simp <;> omega)); (first | omega | (simp <;> omega)))) | (refine g_store ?_; first | (refine st_skipE rfl (r_storeVar (i := 0) S rfl rfl rfl rfl (of_decide_eq_true rfl) (of_decide_eq_true rfl)) ?_; intro w S'; replace S := S'; clear S') | (refine st_skipE rfl (r_storeVar (i := 1) S rfl rfl rfl rfl (of_decide_eq_true rfl) (of_decide_eq_true rfl)) ?_; intro w S'; replace S := S'; clear S')))
    exact ⟨⟨_, by omega, 2, _, ⟨rfl, rfl, rfl, trivial⟩, S, by omega, by omega, rfl⟩⟩
  · have hq : q = 2 := by omega
    subst hq
    repeat' (first | refine WP_seq ?_ | refine WP_region ?_ | refine wl_nil ?_ | refine then_normal ?_ | refine inB_normal ?_ | refine WP_skip ?_ | refine WP_block ?_ | refine WP_condT rfl ?_ | (refine g_move ?_; refine st_move rfl ?_) | (refine g_assign ?_; refine st_assign rfl ?_) | (refine g_b_add ?_; (refine st_val rfl (r_addN rfl rfl ?_ ?_) ?_; (first | omega | (simp <;> omega)); (first | omega | (simp <;> omega)))) | (refine g_b_lss ?_; refine st_val rfl (r_lss rfl rfl) ?_) | (refine g_indexAddr ?_; (refine st_val rfl (r_indexAddrArrL rfl rfl ?_ ?_) ?_; (first | omega | (simp <;> omega)); (first | omega | (simp <;> omega)))) | (refine g_store ?_; first | (refine st_skipE rfl (r_storeVar (i := 0) S rfl rfl rfl rfl (of_decide_eq_true rfl) (of_decide_eq_true rfl)) ?_; intro w S'; replace S := S'; clear S') | (refine st_skipE rfl (r_storeVar (i := 1) S rfl rfl rfl rfl (of_decide_eq_true rfl) (of_decide_eq_true rfl)) ?_; intro w S'; replace S := S'; clear S')))
    exact ⟨⟨_, by omega, 3, _, ⟨rfl, rfl, rfl, trivial⟩, S, by omega, by omega, rfl⟩⟩
  · have hq : q = 3 := by omega
    subst hq
    repeat' (first | refine WP_seq ?_ | refine WP_region ?_ | refine wl_nil ?_ | refine then_normal ?_ | refine inB_normal ?_ | refine WP_skip ?_ | refine WP_block ?_ | refine WP_condT rfl ?_ | (refine g_move ?_; refine st_move rfl ?_) | (refine g_assign ?_; refine st_assign rfl ?_) | (refine g_b_add ?_; (refine st_val rfl (r_addN rfl rfl ?_ ?_) ?_; (first | omega | (simp <;> omega)); (first | omega | (simp <;> omega)))) | (refine g_b_lss ?_; refine st_val rfl (r_lss rfl rfl) ?_) | (refine g_indexAddr ?_; (refine st_val rfl (r_indexAddrArrL rfl rfl ?_ ?_) ?_; (first | omega | (simp <;> omega)); (first | omega | (simp <;> omega)))) | (refine g_store ?_; first | (refine st_skipE rfl (r_storeVar (i := 0) S rfl rfl rfl rfl (of_decide_eq_true rfl) (of_decide_eq_true rfl)) ?_; intro w S'; replace S := S'; clear S') | (refine st_skipE rfl (r_storeVar (i := 1) S rfl rfl rfl rfl (of_decide_eq_true rfl) (of_decide_eq_true rfl)) ?_; intro w S'; replace S := S'; clear S')))
    exact ⟨⟨_, by omega, 4, _, ⟨rfl, rfl, rfl, trivial⟩, S, by omega, by omega, rfl⟩⟩
  · have hq : q = 4 := by omega
    subst hq
    repeat' (first | refine WP_seq ?_ | refine WP_region ?_ | refine wl_nil ?_ | refine then_normal ?_ | refine inB_normal ?_ | refine WP_skip ?_ | refine WP_block ?_ | refine WP_condT rfl ?_ | (refine g_move ?_; refine st_move rfl ?_) | (refine g_assign ?_; refine st_assign rfl ?_) | (refine g_b_add ?_; (refine st_val rfl (r_addN rfl rfl ?_ ?_) ?_; (first | omega | (simp <;> omega)); (first | omega | (simp <;> omega)))) | (refine g_b_lss ?_; refine st_val rfl (r_lss rfl rfl) ?_) | (refine g_indexAddr ?_; (refine st_val rfl (r_indexAddrArrL rfl rfl ?_ ?_) ?_; (first | omega | (simp <;> omega)); (first | omega | (simp <;> omega)))) | (refine g_store ?_; first | (refine st_skipE rfl (r_storeVar (i := 0) S rfl rfl rfl rfl (of_decide_eq_true rfl) (of_decide_eq_true rfl)) ?_; intro w S'; replace S := S'; clear S') | (refine st_skipE rfl (r_storeVar (i := 1) S rfl rfl rfl rfl (of_decide_eq_true rfl) (of_decide_eq_true rfl)) ?_; intro w S'; replace S := S'; clear S')))
    exact ⟨⟨_, by omega, 5, _, ⟨rfl, rfl, rfl, trivial⟩, S, by omega, by omega, rfl⟩⟩
  · have hq : q = 5 := by omega
    subst hq
    repeat' (first | refine WP_seq ?_ | refine WP_region ?_ | refine wl_nil ?_ | refine then_normal ?_ | refine inB_normal ?_ | refine WP_skip ?_ | refine WP_block ?_ | refine WP_condT rfl ?_ | (refine g_move ?_; refine st_move rfl ?_) | (refine g_assign ?_; refine st_assign rfl ?_) | (refine g_b_add ?_; (refine st_val rfl (r_addN rfl rfl ?_ ?_) ?_; (first | omega | (simp <;> omega)); (first | omega | (simp <;> omega)))) | (refine g_b_lss ?_; refine st_val rfl (r_lss rfl rfl) ?_) | (refine g_indexAddr ?_; (refine st_val rfl (r_indexAddrArrL rfl rfl ?_ ?_) ?_; (first | omega | (simp <;> omega)); (first | omega | (simp <;> omega)))) | (refine g_store ?_; first | (refine st_skipE rfl (r_storeVar (i := 0) S rfl rfl rfl rfl (of_decide_eq_true rfl) (of_decide_eq_true rfl)) ?_; intro w S'; replace S := S'; clear S') | (refine st_skipE rfl (r_storeVar (i := 1) S rfl rfl rfl rfl (of_decide_eq_true rfl) (of_decide_eq_true rfl)) ?_; intro w S'; replace S := S'; clear S')))
    exact ⟨⟨_, by omega, 6, _, ⟨rfl, rfl, rfl, trivial⟩, S, by omega, by omega, rfl⟩⟩
  · have hq : q = 6 := by omega
    subst hq
    repeat' (first | refine WP_seq ?_ | refine WP_region ?_ | refine wl_nil ?_ | refine then_normal ?_ | refine inB_normal ?_ | refine WP_skip ?_ | refine WP_block ?_ | refine WP_condT rfl ?_ | (refine g_move ?_; refine st_move rfl ?_) | (refine g_assign ?_; refine st_assign rfl ?_) | (refine g_b_add ?_; (refine st_val rfl (r_addN rfl rfl ?_ ?_) ?_; (first | omega | (simp <;> omega)); (first | omega | (simp <;> omega)))) | (refine g_b_lss ?_; refine st_val rfl (r_lss rfl rfl) ?_) | (refine g_indexAddr ?_; (refine st_val rfl (r_indexAddrArrL rfl rfl ?_ ?_) ?_; (first | omega | (simp <;> omega)); (first | omega | (simp <;> omega)))) | (refine g_store ?_; first | (refine st_skipE rfl (r_storeVar (i := 0) S rfl rfl rfl rfl (of_decide_eq_true rfl) (of_decide_eq_true rfl)) ?_; intro w S'; replace S := S'; clear S') | (refine st_skipE rfl (r_storeVar (i := 1) S rfl rfl rfl rfl (of_decide_eq_true rfl) (of_decide_eq_true rfl)) ?_; intro w S'; replace S := S'; clear S')))
    exact ⟨⟨_, by omega, 7, _, ⟨rfl, rfl, rfl, trivial⟩, S, by omega, by omega, rfl⟩⟩
section
variable {acc cl day t : Int} {L L' : List GPosting} {l : List GContract} {sp : List GSpot} {vs : List GVerdict} {ws : List Int} {fr : Int} {r : List Int × Int} {rs : List GSpot × Int} {v v1 v2 v3 : Value} {w0 : World}
theorem settle_some (h : setI acc cl L l sp day = some L') (hr : Rd fGPosting.ty w0 v L) (hr1 : Rd fGContract.ty w0 v1 l) (hr2 : Rd fGSpot.ty w0 v2 sp) (hl : L.length ≤ 1000000) (hl1 : l.length ≤ 1000000000) (hl2 : sp.length ≤ 1000000000) (hG : TblAt w0) :
    CallsR Tryd.prog 22 #[.agg (bkV acc v cl).toArray, v1, v2, .int .i64 day] w0 (BkR w0 acc cl L' [.int .i64 0]) := callsR_mono (Settle_run hr hr1 hr2 hl hl1 hl2 hG) fun r w' h2 => by unfold SettleR at h2; rw [h] at h2; exact h2
theorem settle_none (h : setI acc cl L l sp day = none) (hr : Rd fGPosting.ty w0 v L) (hr1 : Rd fGContract.ty w0 v1 l) (hr2 : Rd fGSpot.ty w0 v2 sp) (hl : L.length ≤ 1000000) (hl1 : l.length ≤ 1000000000) (hl2 : sp.length ≤ 1000000000) (hG : TblAt w0) :
    CallsR Tryd.prog 22 #[.agg (bkV acc v cl).toArray, v1, v2, .int .i64 day] w0 (fun r w' => r = .tuple #[.agg (bkV 0 (.slice none 0 0) 0).toArray, .int .i64 390]) := callsR_mono (Settle_run hr hr1 hr2 hl hl1 hl2 hG) fun r w' h2 => by unfold SettleR at h2; rw [h] at h2; exact h2
theorem del_is (h : delI l sp vs fr = rs) (hr1 : Rd fGContract.ty w0 v1 l) (hr2 : Rd fGSpot.ty w0 v2 sp) (hr3 : Rd fGVerdict.ty w0 v3 vs) (hl1 : l.length ≤ 1000000000) (hl2 : sp.length ≤ 1000000000) (hl3 : vs.length ≤ 1000000000) : CallsR Tryd.prog 16 #[v1, v2, v3, .int .i64 fr] w0 (RowDl w0 rs) := by rw [← h]; exact del_run hr1 hr2 hr3 hl1 hl2 hl3
theorem shares_is (h : shI t ws = r) (hr : Rd (fInt .i64).ty w0 v ws) (hl : ws.length ≤ 1000000000) : CallsR Tryd.prog 27 #[.int .i64 t, v] w0 (RowE w0 r) := by rw [← h]; exact shares_run hr hl
theorem roy_is (h : royI t ws vs = r) (hr : Rd (fInt .i64).ty w0 v1 ws) (hr2 : Rd fGVerdict.ty w0 v2 vs) (hl : ws.length ≤ 1000000000) (hl2 : vs.length ≤ 1000000000) : CallsR Tryd.prog 29 #[.int .i64 t, v1, v2] w0 (RowE w0 r) := by rw [← h]; exact roy_run hr hr2 hl hl2
end
abbrev exC : List GContract := [⟨7, 2, 0, 5, 3, 3, 0, 30, allW, ⟨0, 1000⟩⟩]
abbrev exS : List GSpot := [⟨7, 100⟩, ⟨7, 200⟩]
abbrev exV : List GVerdict := [⟨1, 5⟩]
abbrev exR : List GVerdict := [⟨1, 5⟩, ⟨3, 0⟩, ⟨1, 4⟩, ⟨1, 5⟩]
abbrev exB : List GPosting := [⟨1, 3, 3, 0, 60, 7, -1⟩]
abbrev exB2 : List GPosting := [⟨1, 3, 3, 0, 60, 7, -1⟩, ⟨3, 40, 0, 3, 60, 7, 0⟩, ⟨1, 40, 3, 0, 30, 7, -1⟩]
theorem z1 : dueI exC exS = ([60], 0) := by decide +kernel
theorem z2 : delI exC exS exV 109 = ([⟨7, 100⟩], 0) := by decide +kernel
theorem z3 : delI exC exS exV 110 = ([], 0) := by decide +kernel
theorem z4 : setI 4 0 [] exC exS 3 = some exB := by decide +kernel
theorem z5 : setI 4 0 exB exC [⟨7, 100⟩] 40 = some exB2 := by decide +kernel
theorem z6 : setI 3 0 [] exC exS 3 = none := by decide +kernel
theorem z7 : shI 10 [1, 1, 1] = ([4, 3, 3], 0) := by decide +kernel
theorem z8 : shI 7 [0, 2, 1] = ([0, 5, 2], 0) := by decide +kernel
theorem z9 : royI 9 [4, 5] exR = ([3, 6], 0) := by decide +kernel
theorem z10 : validV exV = true := by decide +kernel
set_option maxRecDepth 20000 in
set_option maxHeartbeats 4000000 in
theorem sane_spec {w0 : World} (hG : TblAt w0) : CallsV Tryd.prog 10 #[] w0 (.bool true) := by
  have S := St.start w0
  refine CallsV.mk ?_
  refine calls_enter Tryd.func10 rfl (by intro _ h; first | exact nomatch h.1 | (obtain ⟨_, h, _⟩ := h; exact nomatch h)) Tryd.ntmps10 rfl ?_
  repeat' (first | refine WP_seq ?_ | refine WP_region ?_ | refine wl_nil ?_ | refine then_normal ?_ | (refine g_assign ?_; refine st_assign rfl ?_) | (refine g_build ?_; first | refine st_val rfl (bd68_0_1 rfl rfl) ?_ | refine st_val rfl (bd70_0_1_3_4_5_7_8_9 rfl rfl rfl rfl rfl rfl rfl rfl) ?_) | (refine g_callV ?_; (refine st_callV rfl (r_call0 rfl) (every_spec) ?_; intro w hb; replace S := S.grow hb; clear hb)))
  refine st_valE rfl (r_litF (D := fGContract) exC (fun y => .agg y.enc.toArray) S rfl rfl (fun _ => rfl) rfl (by decide) (by decide)) ?_
  rintro _ w ⟨k1, rfl, -, -, S'⟩; replace S := S'; clear S'
  repeat' (first | refine WP_seq ?_ | refine WP_region ?_ | refine wl_nil ?_ | refine then_normal ?_ | (refine g_assign ?_; refine st_assign rfl ?_) | (refine g_build ?_; refine st_val rfl (bd63_0_1 rfl rfl) ?_))
  refine st_valE rfl (r_litF (D := fGSpot) exS (fun y => .agg y.enc.toArray) S rfl rfl (fun _ => rfl) rfl (by decide) (by decide)) ?_
  rintro _ w ⟨k2, rfl, -, -, S'⟩; replace S := S'; clear S'
  repeat' (first | refine WP_seq ?_ | refine WP_region ?_ | refine wl_nil ?_ | refine then_normal ?_ | (refine g_assign ?_; refine st_assign rfl ?_) | (refine g_build ?_; refine st_val rfl (bd60_0_1 rfl rfl) ?_))
  refine st_valE rfl (r_litF (D := fGVerdict) exV (fun y => .agg y.enc.toArray) S rfl rfl (fun _ => rfl) rfl (by decide) (by decide)) ?_
  rintro _ w ⟨k3, rfl, -, -, S'⟩; replace S := S'; clear S'
  repeat' (first | refine WP_seq ?_ | refine WP_region ?_ | refine wl_nil ?_ | refine then_normal ?_ | (refine g_move ?_; refine st_move rfl ?_) | (refine g_assign ?_; refine st_assign rfl ?_))
  refine st_callR rfl (r_call2 rfl rfl rfl) (due_is z1 (S.rdRow (D := fGContract) (i := 0) rfl) (S.rdRow (D := fGSpot) (i := 1) rfl) (by decide) (by decide) (hG.mono S.below)) ?_
  rintro _ w hb ⟨v4, rfl, hrow⟩; replace S := S.new hb hrow; clear hb hrow
  refine wl_forget [(1, .slice (some ⟨k1, 0, none⟩) 1 1), (2, .slice (some ⟨k2, 0, none⟩) 2 2), (3, .slice (some ⟨k3, 0, none⟩) 1 1), (36, .tuple #[v4, .int .i64 0])] ⟨rfl, rfl, rfl, rfl, trivial⟩ ?_
  intro σ hs
  refine wl_has hs ?_
  clear hs
  replace S : St w0 _ [rowOb (fGContract) 70 (.slice (some ⟨k1, 0, none⟩) 1 1) exC, rowOb (fGSpot) 63 (.slice (some ⟨k2, 0, none⟩) 2 2) exS, rowOb (fGVerdict) 60 (.slice (some ⟨k3, 0, none⟩) 1 1) exV, rowOb (fInt .i64) 3 v4 [60]] := S
  repeat' (first | refine WP_seq ?_ | refine WP_region ?_ | refine wl_nil ?_ | refine then_normal ?_ | (refine g_move ?_; refine st_move rfl ?_) | (refine g_assign ?_; refine st_assign rfl ?_) | (refine g_extract ?_; refine st_val rfl (r_extract rfl rfl) ?_))
  refine st_callR rfl (r_call4 rfl rfl rfl rfl rfl) (del_is z2 (S.rdRow (D := fGContract) (i := 0) rfl) (S.rdRow (D := fGSpot) (i := 1) rfl) (S.rdRow (D := fGVerdict) (i := 2) rfl) (by decide) (by decide) (by decide)) ?_
  rintro _ w hb ⟨v6, rfl, hrow⟩; replace S := S.new hb hrow; clear hb hrow
  refine wl_forget [(1, .slice (some ⟨k1, 0, none⟩) 1 1), (2, .slice (some ⟨k2, 0, none⟩) 2 2), (3, .slice (some ⟨k3, 0, none⟩) 1 1), (4, v4), (5, .int .i64 0), (43, .tuple #[v6, .int .i64 0])] ⟨rfl, rfl, rfl, rfl, rfl, rfl, trivial⟩ ?_
  intro σ hs
  refine wl_has hs ?_
  clear hs
  replace S : St w0 _ [rowOb (fGContract) 70 (.slice (some ⟨k1, 0, none⟩) 1 1) exC, rowOb (fGSpot) 63 (.slice (some ⟨k2, 0, none⟩) 2 2) exS, rowOb (fGVerdict) 60 (.slice (some ⟨k3, 0, none⟩) 1 1) exV, rowOb (fInt .i64) 3 v4 [60], rowOb (fGSpot) 63 v6 [⟨7, 100⟩]] := S
  repeat' (first | refine WP_seq ?_ | refine WP_region ?_ | refine wl_nil ?_ | refine then_normal ?_ | (refine g_move ?_; refine st_move rfl ?_) | (refine g_assign ?_; refine st_assign rfl ?_) | (refine g_extract ?_; refine st_val rfl (r_extract rfl rfl) ?_))
  refine st_callR rfl (r_call4 rfl rfl rfl rfl rfl) (del_is z3 (S.rdRow (D := fGContract) (i := 0) rfl) (S.rdRow (D := fGSpot) (i := 1) rfl) (S.rdRow (D := fGVerdict) (i := 2) rfl) (by decide) (by decide) (by decide)) ?_
  rintro _ w hb ⟨v8, rfl, hrow⟩; replace S := S.new hb hrow; clear hb hrow
  refine wl_forget [(1, .slice (some ⟨k1, 0, none⟩) 1 1), (2, .slice (some ⟨k2, 0, none⟩) 2 2), (3, .slice (some ⟨k3, 0, none⟩) 1 1), (4, v4), (5, .int .i64 0), (6, v6), (7, .int .i64 0), (50, .tuple #[v8, .int .i64 0])] ⟨rfl, rfl, rfl, rfl, rfl, rfl, rfl, rfl, trivial⟩ ?_
  intro σ hs
  refine wl_has hs ?_
  clear hs
  replace S : St w0 _ [rowOb (fGContract) 70 (.slice (some ⟨k1, 0, none⟩) 1 1) exC, rowOb (fGSpot) 63 (.slice (some ⟨k2, 0, none⟩) 2 2) exS, rowOb (fGVerdict) 60 (.slice (some ⟨k3, 0, none⟩) 1 1) exV, rowOb (fInt .i64) 3 v4 [60], rowOb (fGSpot) 63 v6 [⟨7, 100⟩], rowOb (fGSpot) 63 v8 []] := S
  obtain ⟨A8, c8, hz⟩ := (S.rdRow (D := fGSpot) (i := 5) rfl).len; subst hz
  repeat' (first | refine WP_seq ?_ | refine WP_region ?_ | refine wl_nil ?_ | refine then_normal ?_ | (refine g_move ?_; refine st_move rfl ?_) | (refine g_assign ?_; refine st_assign rfl ?_) | (refine g_build ?_; refine st_val rfl (bd27_0 rfl) ?_) | (refine g_extract ?_; refine st_val rfl (r_extract rfl rfl) ?_))
  refine st_callR rfl (r_call4 rfl rfl rfl rfl rfl) (settle_some z4 (Rd.nil _ _) (S.rdRow (D := fGContract) (i := 0) rfl) (S.rdRow (D := fGSpot) (i := 1) rfl) (by decide) (by decide) (by decide) (hG.mono S.below)) ?_
  rintro _ w hb ⟨vb, rfl, S'⟩; replace S := S.join S'; clear hb S'
  obtain ⟨A1, c1, hz⟩ := (S.rdRow (D := fGPosting) (i := 6) rfl).len; subst hz
  refine wl_forget [(1, .slice (some ⟨k1, 0, none⟩) 1 1), (2, .slice (some ⟨k2, 0, none⟩) 2 2), (3, .slice (some ⟨k3, 0, none⟩) 1 1), (4, v4), (5, .int .i64 0), (6, v6), (7, .int .i64 0), (8, .slice A8 0 c8), (9, .int .i64 0), (57, .tuple #[.agg (bkV 4 (.slice A1 1 c1) 0).toArray, .int .i64 0])] ⟨rfl, rfl, rfl, rfl, rfl, rfl, rfl, rfl, rfl, rfl, trivial⟩ ?_
  intro σ hs
  refine wl_has hs ?_
  clear hs
  replace S : St w0 _ [rowOb (fGContract) 70 (.slice (some ⟨k1, 0, none⟩) 1 1) exC, rowOb (fGSpot) 63 (.slice (some ⟨k2, 0, none⟩) 2 2) exS, rowOb (fGVerdict) 60 (.slice (some ⟨k3, 0, none⟩) 1 1) exV, rowOb (fInt .i64) 3 v4 [60], rowOb (fGSpot) 63 v6 [⟨7, 100⟩], rowOb (fGSpot) 63 (.slice A8 0 c8) [], rowP (.slice A1 1 c1) exB] := S
  repeat' (first | (refine g_move ?_; refine st_move rfl ?_) | (refine g_extract ?_; refine st_val rfl (r_extract rfl rfl) ?_))
  refine st_valE rfl (r_alloc S) ?_
  rintro _ w ⟨b10, rfl, -, S'⟩; replace S := S'; clear S'
  refine st_skipE rfl (r_storeVar (i := 7) S rfl rfl rfl rfl (of_decide_eq_true rfl) (of_decide_eq_true rfl)) ?_
  intro w S'; replace S := S'; clear S'
  repeat' (first | refine WP_seq ?_ | refine wl_nil ?_ | refine then_normal ?_ | (refine g_assign ?_; refine st_assign rfl ?_))
  refine WP_then_cut (fun σ w1 => ∃ (A2 : Option Addr) (c2 b12 : Nat), Has σ [(1, .slice (some ⟨k1, 0, none⟩) 1 1), (2, .slice (some ⟨k2, 0, none⟩) 2 2), (3, .slice (some ⟨k3, 0, none⟩) 1 1), (4, v4), (5, .int .i64 0), (6, v6), (7, .int .i64 0), (8, .slice A8 0 c8), (9, .int .i64 0), (10, .pointer (some ⟨b10, 0, none⟩)), (11, .int .i64 0), (12, .pointer (some ⟨b12, 0, none⟩)), (13, .int .i64 0)] ∧ St w0 w1 [rowOb (fGContract) 70 (.slice (some ⟨k1, 0, none⟩) 1 1) exC, rowOb (fGSpot) 63 (.slice (some ⟨k2, 0, none⟩) 2 2) exS, rowOb (fGVerdict) 60 (.slice (some ⟨k3, 0, none⟩) 1 1) exV, rowOb (fInt .i64) 3 v4 [60], rowOb (fGSpot) 63 v6 [⟨7, 100⟩], rowOb (fGSpot) 63 (.slice A8 0 c8) [], rowP (.slice A1 1 c1) exB, .var b10 27 (bkV 4 (.slice A1 1 c1) 0), rowP (.slice A2 3 c2) exB2, .var b12 27 (bkV 4 (.slice A2 3 c2) 0)]) ?_ ?_
  · refine WP_drawU (fun w' => St w0 w' [rowOb (fGContract) 70 (.slice (some ⟨k1, 0, none⟩) 1 1) exC, rowOb (fGSpot) 63 (.slice (some ⟨k2, 0, none⟩) 2 2) exS, rowOb (fGVerdict) 60 (.slice (some ⟨k3, 0, none⟩) 1 1) exV, rowOb (fInt .i64) 3 v4 [60], rowOb (fGSpot) 63 v6 [⟨7, 100⟩], rowOb (fGSpot) 63 (.slice A8 0 c8) [], rowP (.slice A1 1 c1) exB, .var b10 27 (bkV 4 (.slice A1 1 c1) 0)]) (.vals [0, 1, 2, 3] (.two 4 (.vals [5, 6, 7] (.one 8 (.one 9 (.vals [10] .fin)))) 8 (.one 4 (.vals [5, 6, 7] (.one 9 (.vals [10] .fin)))))) (by kernel_rfl) (by decide) (by decide +kernel) (fun w' hb => S.grow hb) ?_
    intro w' hb; replace S := S.grow hb; clear hb
    refine wu_vals ?_
    repeat' (first | refine jq_nil ?_ | (refine gj_move ?_; refine jq_val rfl (fun w' hJ => ⟨rfl⟩) ?_) | (refine gj_assign ?_; refine jq_val rfl (fun w' hJ => ⟨rfl⟩) ?_) | (refine jq_val rfl (fun w' hJ => r_loadVarA (i := 7) hJ rfl rfl rfl rfl) ?_) | (refine jq_val rfl (fun w' hJ => r_sliceHi (hJ.rdRow (D := fGSpot) (i := 1) rfl) rfl rfl (by decide) (by decide)) ?_))
    refine wu_two ?_ ?_
    · refine kq_callR rfl (r_call4 rfl rfl rfl rfl rfl) (settle_some z5 (S.rdRow (D := fGPosting) (i := 6) rfl) (S.rdRow (D := fGContract) (i := 0) rfl) ((S.rdRow (D := fGSpot) (i := 1) rfl).cut (lo := 0) (hi := 1) (by decide) (by decide)) (by decide) (by decide) (by decide) (hG.mono S.below)) ?_
      rintro _ w hb ⟨vc, rfl, S'⟩; obtain ⟨A2, c2, hz⟩ := (S'.rdRow (D := fGPosting) (i := 0) rfl).len; subst hz; replace S := S.join S'; clear hb S'; refine ⟨S.keep [true, true, true, true, true, true, true, true], ?_⟩
      refine wu_vals ?_; refine jq_val rfl (fun w' hJ => ⟨rfl⟩) ?_; refine jq_val rfl (fun w' hJ => r_extract rfl rfl) ?_; refine jq_val rfl (fun w' hJ => r_extract rfl rfl) ?_; refine jq_nil ?_
      refine wu_one ?_; refine kq_valE rfl (r_alloc S) ?_; rintro _ w ⟨b12, rfl, -, S'⟩; replace S := S'; clear S'; refine ⟨S.keep [true, true, true, true, true, true, true, true], ?_⟩
      refine wu_one ?_; refine kq_skipE rfl (r_storeVar (i := 9) S rfl rfl rfl rfl (of_decide_eq_true rfl) (of_decide_eq_true rfl)) ?_; intro w S'; replace S := S'; clear S'; refine ⟨S.keep [true, true, true, true, true, true, true, true], ?_⟩
      refine wu_vals ?_; refine jq_val rfl (fun w' hJ => ⟨rfl⟩) ?_; refine jq_nil ?_; refine wu_fin ?_; refine calm_normal ?_; exact ⟨A2, c2, b12, ⟨rfl, rfl, rfl, rfl, rfl, rfl, rfl, rfl, rfl, rfl, rfl, rfl, rfl, trivial⟩, S⟩
    · refine kq_valE rfl (r_alloc S) ?_; rintro _ w ⟨b12, rfl, -, S'⟩; replace S := S'; clear S'; refine ⟨S.keep [true, true, true, true, true, true, true, true], ?_⟩
      refine wu_one ?_; refine kq_callR rfl (r_call4 rfl rfl rfl rfl rfl) (settle_some z5 (S.rdRow (D := fGPosting) (i := 6) rfl) (S.rdRow (D := fGContract) (i := 0) rfl) ((S.rdRow (D := fGSpot) (i := 1) rfl).cut (lo := 0) (hi := 1) (by decide) (by decide)) (by decide) (by decide) (by decide) (hG.mono S.below)) ?_
      rintro _ w hb ⟨vc, rfl, S'⟩; obtain ⟨A2, c2, hz⟩ := (S'.rdRow (D := fGPosting) (i := 0) rfl).len; subst hz; replace S := S.join S'; clear hb S'; refine ⟨S.keep [true, true, true, true, true, true, true, true], ?_⟩
      refine wu_vals ?_; refine jq_val rfl (fun w' hJ => ⟨rfl⟩) ?_; refine jq_val rfl (fun w' hJ => r_extract rfl rfl) ?_; refine jq_val rfl (fun w' hJ => r_extract rfl rfl) ?_; refine jq_nil ?_
      refine wu_one ?_; refine kq_skipE rfl (r_storeVar (i := 8) S rfl rfl rfl rfl (of_decide_eq_true rfl) (of_decide_eq_true rfl)) ?_; intro w S'; replace S := S'; clear S'; refine ⟨S.keep [true, true, true, true, true, true, true, true], ?_⟩
      refine wu_vals ?_; refine jq_val rfl (fun w' hJ => ⟨rfl⟩) ?_; refine jq_nil ?_; refine wu_fin ?_; refine calm_normal ?_; exact ⟨A2, c2, b12, ⟨rfl, rfl, rfl, rfl, rfl, rfl, rfl, rfl, rfl, rfl, rfl, rfl, rfl, trivial⟩, S.perm (List.Perm.cons _ (List.Perm.cons _ (List.Perm.cons _ (List.Perm.cons _ (List.Perm.cons _ (List.Perm.cons _ (List.Perm.cons _ (List.Perm.cons _ (List.Perm.swap _ _ _)))))))))⟩
  clear S
  rintro σ w1 ⟨A2, c2, b12, hs, S⟩
  refine WP_has hs ?_
  clear hs
  repeat' (first | refine WP_seq ?_ | refine WP_region ?_ | (refine g_move ?_; refine st_move rfl ?_) | (refine g_build ?_; refine st_val rfl (bd27_0 rfl) ?_))
  refine st_callR rfl (r_call4 rfl rfl rfl rfl rfl) (settle_none z6 (Rd.nil _ _) (S.rdRow (D := fGContract) (i := 0) rfl) (S.rdRow (D := fGSpot) (i := 1) rfl) (by decide) (by decide) (by decide) (hG.mono S.below)) ?_
  rintro _ w hb rfl; replace S := S.grow hb; clear hb
  refine wl_forget [(1, .slice (some ⟨k1, 0, none⟩) 1 1), (2, .slice (some ⟨k2, 0, none⟩) 2 2), (3, .slice (some ⟨k3, 0, none⟩) 1 1), (4, v4), (5, .int .i64 0), (6, v6), (7, .int .i64 0), (8, .slice A8 0 c8), (9, .int .i64 0), (10, .pointer (some ⟨b10, 0, none⟩)), (11, .int .i64 0), (12, .pointer (some ⟨b12, 0, none⟩)), (13, .int .i64 0), (72, .tuple #[.agg (bkV 0 (.slice none 0 0) 0).toArray, .int .i64 390])] ⟨rfl, rfl, rfl, rfl, rfl, rfl, rfl, rfl, rfl, rfl, rfl, rfl, rfl, rfl, trivial⟩ ?_
  intro σ hs
  refine wl_has hs ?_
  clear hs
  replace S : St w0 _ [rowOb (fGContract) 70 (.slice (some ⟨k1, 0, none⟩) 1 1) exC, rowOb (fGSpot) 63 (.slice (some ⟨k2, 0, none⟩) 2 2) exS, rowOb (fGVerdict) 60 (.slice (some ⟨k3, 0, none⟩) 1 1) exV, rowOb (fInt .i64) 3 v4 [60], rowOb (fGSpot) 63 v6 [⟨7, 100⟩], rowOb (fGSpot) 63 (.slice A8 0 c8) [], rowP (.slice A1 1 c1) exB, .var b10 27 (bkV 4 (.slice A1 1 c1) 0), rowP (.slice A2 3 c2) exB2, .var b12 27 (bkV 4 (.slice A2 3 c2) 0)] := S
  repeat' (first | (refine g_move ?_; refine st_move rfl ?_) | (refine g_extract ?_; refine st_val rfl (r_extract rfl rfl) ?_))
  refine st_valE rfl (r_alloc S) ?_
  rintro _ w ⟨b14, rfl, -, S'⟩; replace S := S'; clear S'
  refine st_skipE rfl (r_storeVar (i := 10) S rfl rfl rfl rfl (of_decide_eq_true rfl) (of_decide_eq_true rfl)) ?_
  intro w S'; replace S := S'; clear S'
  repeat' (first | refine WP_seq ?_ | refine WP_region ?_ | refine wl_nil ?_ | refine then_normal ?_ | (refine g_assign ?_; refine st_assign rfl ?_))
  refine st_valE rfl (r_litF (D := fInt .i64) [1, 1, 1] (Value.int .i64) S rfl rfl (fun _ => rfl) rfl (by decide) (by decide)) ?_
  rintro _ w ⟨k4, rfl, -, -, S'⟩; replace S := S'; clear S'
  skip
  refine st_callR rfl (r_call2 rfl rfl rfl) (shares_is z7 (S.rdRow (D := fInt .i64) (i := 11) rfl) (by decide)) ?_
  rintro _ w hb ⟨v16, rfl, hrow⟩; replace S := S.new hb hrow; clear hb hrow
  refine wl_forget [(1, .slice (some ⟨k1, 0, none⟩) 1 1), (2, .slice (some ⟨k2, 0, none⟩) 2 2), (3, .slice (some ⟨k3, 0, none⟩) 1 1), (4, v4), (5, .int .i64 0), (6, v6), (7, .int .i64 0), (8, .slice A8 0 c8), (9, .int .i64 0), (10, .pointer (some ⟨b10, 0, none⟩)), (11, .int .i64 0), (12, .pointer (some ⟨b12, 0, none⟩)), (13, .int .i64 0), (15, .int .i64 390), (77, .tuple #[v16, .int .i64 0])] ⟨rfl, rfl, rfl, rfl, rfl, rfl, rfl, rfl, rfl, rfl, rfl, rfl, rfl, rfl, rfl, trivial⟩ ?_
  intro σ hs
  refine wl_has hs ?_
  clear hs
  replace S : St w0 _ [rowOb (fGContract) 70 (.slice (some ⟨k1, 0, none⟩) 1 1) exC, rowOb (fGSpot) 63 (.slice (some ⟨k2, 0, none⟩) 2 2) exS, rowOb (fGVerdict) 60 (.slice (some ⟨k3, 0, none⟩) 1 1) exV, rowOb (fInt .i64) 3 v4 [60], rowOb (fGSpot) 63 v6 [⟨7, 100⟩], rowOb (fGSpot) 63 (.slice A8 0 c8) [], rowP (.slice A1 1 c1) exB, .var b10 27 (bkV 4 (.slice A1 1 c1) 0), rowP (.slice A2 3 c2) exB2, .var b12 27 (bkV 4 (.slice A2 3 c2) 0), .var b14 27 (bkV 0 (.slice none 0 0) 0), rowOb (fInt .i64) 3 (.slice (some ⟨k4, 0, none⟩) 3 3) [1, 1, 1], rowOb (fInt .i64) 3 v16 [4, 3, 3]] := S
  repeat' (first | refine WP_seq ?_ | refine WP_region ?_ | refine wl_nil ?_ | refine then_normal ?_ | (refine g_move ?_; refine st_move rfl ?_) | (refine g_assign ?_; refine st_assign rfl ?_) | (refine g_extract ?_; refine st_val rfl (r_extract rfl rfl) ?_))
  refine st_valE rfl (r_litF (D := fInt .i64) [0, 2, 1] (Value.int .i64) S rfl rfl (fun _ => rfl) rfl (by decide) (by decide)) ?_
  rintro _ w ⟨k5, rfl, -, -, S'⟩; replace S := S'; clear S'
  skip
  refine st_callR rfl (r_call2 rfl rfl rfl) (shares_is z8 (S.rdRow (D := fInt .i64) (i := 13) rfl) (by decide)) ?_
  rintro _ w hb ⟨v18, rfl, hrow⟩; replace S := S.new hb hrow; clear hb hrow
  refine wl_forget [(1, .slice (some ⟨k1, 0, none⟩) 1 1), (2, .slice (some ⟨k2, 0, none⟩) 2 2), (3, .slice (some ⟨k3, 0, none⟩) 1 1), (4, v4), (5, .int .i64 0), (6, v6), (7, .int .i64 0), (8, .slice A8 0 c8), (9, .int .i64 0), (10, .pointer (some ⟨b10, 0, none⟩)), (11, .int .i64 0), (12, .pointer (some ⟨b12, 0, none⟩)), (13, .int .i64 0), (15, .int .i64 390), (16, v16), (17, .int .i64 0), (82, .tuple #[v18, .int .i64 0])] ⟨rfl, rfl, rfl, rfl, rfl, rfl, rfl, rfl, rfl, rfl, rfl, rfl, rfl, rfl, rfl, rfl, rfl, trivial⟩ ?_
  intro σ hs
  refine wl_has hs ?_
  clear hs
  replace S : St w0 _ [rowOb (fGContract) 70 (.slice (some ⟨k1, 0, none⟩) 1 1) exC, rowOb (fGSpot) 63 (.slice (some ⟨k2, 0, none⟩) 2 2) exS, rowOb (fGVerdict) 60 (.slice (some ⟨k3, 0, none⟩) 1 1) exV, rowOb (fInt .i64) 3 v4 [60], rowOb (fGSpot) 63 v6 [⟨7, 100⟩], rowOb (fGSpot) 63 (.slice A8 0 c8) [], rowP (.slice A1 1 c1) exB, .var b10 27 (bkV 4 (.slice A1 1 c1) 0), rowP (.slice A2 3 c2) exB2, .var b12 27 (bkV 4 (.slice A2 3 c2) 0), .var b14 27 (bkV 0 (.slice none 0 0) 0), rowOb (fInt .i64) 3 (.slice (some ⟨k4, 0, none⟩) 3 3) [1, 1, 1], rowOb (fInt .i64) 3 v16 [4, 3, 3], rowOb (fInt .i64) 3 (.slice (some ⟨k5, 0, none⟩) 3 3) [0, 2, 1], rowOb (fInt .i64) 3 v18 [0, 5, 2]] := S
  repeat' (first | refine WP_seq ?_ | refine WP_region ?_ | refine wl_nil ?_ | refine then_normal ?_ | (refine g_move ?_; refine st_move rfl ?_) | (refine g_assign ?_; refine st_assign rfl ?_) | (refine g_extract ?_; refine st_val rfl (r_extract rfl rfl) ?_))
  refine st_valE rfl (r_litF (D := fInt .i64) [4, 5] (Value.int .i64) S rfl rfl (fun _ => rfl) rfl (by decide) (by decide)) ?_
  rintro _ w ⟨k6, rfl, -, -, S'⟩; replace S := S'; clear S'
  repeat' ((refine g_build ?_; first | refine st_val rfl (bd60_0 rfl) ?_ | refine st_val rfl (bd60_0_1 rfl rfl) ?_))
  refine st_valE rfl (r_litF (D := fGVerdict) exR (fun y => .agg y.enc.toArray) S rfl rfl (fun _ => rfl) rfl (by decide) (by decide)) ?_
  rintro _ w ⟨k7, rfl, -, -, S'⟩; replace S := S'; clear S'
  skip
  refine st_callR rfl (r_call3 rfl rfl rfl rfl) (roy_is z9 (S.rdRow (D := fInt .i64) (i := 15) rfl) (S.rdRow (D := fGVerdict) (i := 16) rfl) (by decide) (by decide)) ?_
  rintro _ w hb ⟨v20, rfl, hrow⟩; replace S := S.new hb hrow; clear hb hrow
  refine wl_forget [(1, .slice (some ⟨k1, 0, none⟩) 1 1), (2, .slice (some ⟨k2, 0, none⟩) 2 2), (3, .slice (some ⟨k3, 0, none⟩) 1 1), (4, v4), (5, .int .i64 0), (6, v6), (7, .int .i64 0), (8, .slice A8 0 c8), (9, .int .i64 0), (10, .pointer (some ⟨b10, 0, none⟩)), (11, .int .i64 0), (12, .pointer (some ⟨b12, 0, none⟩)), (13, .int .i64 0), (15, .int .i64 390), (16, v16), (17, .int .i64 0), (18, v18), (19, .int .i64 0), (92, .tuple #[v20, .int .i64 0])] ⟨rfl, rfl, rfl, rfl, rfl, rfl, rfl, rfl, rfl, rfl, rfl, rfl, rfl, rfl, rfl, rfl, rfl, rfl, rfl, trivial⟩ ?_
  intro σ hs
  refine wl_has hs ?_
  clear hs
  replace S : St w0 _ [rowOb (fGContract) 70 (.slice (some ⟨k1, 0, none⟩) 1 1) exC, rowOb (fGSpot) 63 (.slice (some ⟨k2, 0, none⟩) 2 2) exS, rowOb (fGVerdict) 60 (.slice (some ⟨k3, 0, none⟩) 1 1) exV, rowOb (fInt .i64) 3 v4 [60], rowOb (fGSpot) 63 v6 [⟨7, 100⟩], rowOb (fGSpot) 63 (.slice A8 0 c8) [], rowP (.slice A1 1 c1) exB, .var b10 27 (bkV 4 (.slice A1 1 c1) 0), rowP (.slice A2 3 c2) exB2, .var b12 27 (bkV 4 (.slice A2 3 c2) 0), .var b14 27 (bkV 0 (.slice none 0 0) 0), rowOb (fInt .i64) 3 (.slice (some ⟨k4, 0, none⟩) 3 3) [1, 1, 1], rowOb (fInt .i64) 3 v16 [4, 3, 3], rowOb (fInt .i64) 3 (.slice (some ⟨k5, 0, none⟩) 3 3) [0, 2, 1], rowOb (fInt .i64) 3 v18 [0, 5, 2], rowOb (fInt .i64) 3 (.slice (some ⟨k6, 0, none⟩) 2 2) [4, 5], rowOb (fGVerdict) 60 (.slice (some ⟨k7, 0, none⟩) 4 4) exR, rowOb (fInt .i64) 3 v20 [3, 6]] := S
  repeat' (first | refine WP_seq ?_ | refine WP_region ?_ | refine wl_nil ?_ | refine then_normal ?_ | refine WP_skip ?_ | refine WP_condF rfl ?_ | (refine g_move ?_; refine st_move rfl ?_) | (refine g_assign ?_; refine st_assign rfl ?_) | (refine g_pick ?_; first | refine st_pickT rfl rfl ?_ | refine st_pickF rfl rfl ?_) | (refine g_b_eql ?_; first | refine st_val rfl (r_eql rfl rfl) ?_ | refine st_val rfl (eql84 rfl rfl) ?_) | (refine g_b_neq ?_; refine st_val rfl (r_neq rfl rfl) ?_) | (refine g_build ?_; first | refine st_val rfl (bd84_0_1_2_4_5_6 rfl rfl rfl rfl rfl rfl) ?_ | refine st_val rfl (bd84_0_1_3_4_5 rfl rfl rfl rfl rfl) ?_) | (refine g_un ?_; refine st_val rfl (r_not rfl) ?_) | (refine g_extract ?_; refine st_val rfl (r_extract rfl rfl) ?_) | (refine g_c_len ?_; refine st_val rfl (r_lenSlice rfl) ?_) | (refine g_fieldAddr ?_; refine st_val rfl (r_fieldAddrL rfl) ?_) | (refine g_indexAddr ?_; first | (refine st_val rfl (r_indexAddr (S.rdRow (D := fGPosting) (i := 6) rfl) rfl rfl ?_ ?_) ?_; (first | omega | (simp <;> omega)); (first | omega | (simp <;> omega))) | (refine st_val rfl (r_indexAddr (S.rdRow (D := fGPosting) (i := 8) rfl) rfl rfl ?_ ?_) ?_; (first | omega | (simp <;> omega)); (first | omega | (simp <;> omega)))) | (refine g_load ?_; first | (refine st_val rfl (r_loadElem (S.rdRow (D := fGPosting) (i := 6) rfl) rfl ?_ ?_) ?_; (first | omega | (simp <;> omega)); (first | omega | (simp <;> omega))) | (refine st_val rfl (r_loadElem (S.rdRow (D := fGPosting) (i := 8) rfl) rfl ?_ ?_) ?_; (first | omega | (simp <;> omega)); (first | omega | (simp <;> omega))) | refine st_val rfl (r_loadVar (i := 7) S rfl rfl rfl) ?_ | refine st_val rfl (r_loadVar (i := 9) S rfl rfl rfl) ?_))
  refine st_valE rfl (r_litF (D := fInt .i64) [60] (Value.int .i64) S rfl rfl (fun _ => rfl) rfl (by decide) (by decide)) ?_
  rintro _ w ⟨l18, rfl, -, -, S'⟩; replace S := S'; clear S'
  repeat' (first | (refine g_move ?_; refine st_move rfl ?_) | (refine g_pick ?_; refine st_pickT rfl rfl ?_) | (refine g_b_eql ?_; refine st_val rfl (r_eql rfl rfl) ?_) | (refine g_c_len ?_; refine st_val rfl (r_lenSlice rfl) ?_) | (refine g_callV ?_; first | (refine st_callV rfl (r_call2 rfl rfl rfl) (ints_is (b := true) (by decide) (S.rdRow (D := fInt .i64) (i := 3) rfl) (S.rdRow (D := fInt .i64) (i := 18) rfl) (by decide) (by decide)) ?_; intro w hb; replace S := S.grow hb; clear hb) | (refine st_callV rfl (r_call2 rfl rfl rfl) (same_is (b := true) (by decide) (S.rdRow (D := fGSpot) (i := 4) rfl) ((S.rdRow (D := fGSpot) (i := 1) rfl).cut (lo := 0) (hi := 1) (by decide) (by decide)) (by decide) (by decide)) ?_; intro w hb; replace S := S.grow hb; clear hb)) | (refine st_val rfl (r_sliceHi (S.rdRow (D := fGSpot) (i := 1) rfl) rfl rfl (by decide) (by decide)) ?_))
  refine st_valE rfl (r_litF (D := fInt .i64) [4, 3, 3] (Value.int .i64) S rfl rfl (fun _ => rfl) rfl (by decide) (by decide)) ?_
  rintro _ w ⟨l19, rfl, -, -, S'⟩; replace S := S'; clear S'
  repeat' (first | (refine g_move ?_; refine st_move rfl ?_) | (refine g_pick ?_; refine st_pickT rfl rfl ?_) | (refine g_callV ?_; (refine st_callV rfl (r_call2 rfl rfl rfl) (ints_is (b := true) (by decide) (S.rdRow (D := fInt .i64) (i := 12) rfl) (S.rdRow (D := fInt .i64) (i := 19) rfl) (by decide) (by decide)) ?_; intro w hb; replace S := S.grow hb; clear hb)))
  refine st_valE rfl (r_litF (D := fInt .i64) [0, 5, 2] (Value.int .i64) S rfl rfl (fun _ => rfl) rfl (by decide) (by decide)) ?_
  rintro _ w ⟨l20, rfl, -, -, S'⟩; replace S := S'; clear S'
  repeat' (first | (refine g_move ?_; refine st_move rfl ?_) | (refine g_pick ?_; refine st_pickT rfl rfl ?_) | (refine g_callV ?_; (refine st_callV rfl (r_call2 rfl rfl rfl) (ints_is (b := true) (by decide) (S.rdRow (D := fInt .i64) (i := 14) rfl) (S.rdRow (D := fInt .i64) (i := 20) rfl) (by decide) (by decide)) ?_; intro w hb; replace S := S.grow hb; clear hb)))
  refine st_valE rfl (r_litF (D := fInt .i64) [3, 6] (Value.int .i64) S rfl rfl (fun _ => rfl) rfl (by decide) (by decide)) ?_
  rintro _ w ⟨l21, rfl, -, -, S'⟩; replace S := S'; clear S'
  repeat' (first | refine wl_nil ?_ | refine then_normal ?_ | refine WP_ret ?_ | (refine g_move ?_; refine st_move rfl ?_) | (refine g_assign ?_; refine st_assign rfl ?_) | (refine g_pick ?_; refine st_pickT rfl rfl ?_) | (refine g_callV ?_; first | (refine st_callV rfl (r_call2 rfl rfl rfl) (ints_is (b := true) (by decide) (S.rdRow (D := fInt .i64) (i := 17) rfl) (S.rdRow (D := fInt .i64) (i := 21) rfl) (by decide) (by decide)) ?_; intro w hb; replace S := S.grow hb; clear hb) | (refine st_callV rfl (r_call1 rfl rfl) (validV_is z10 (S.rdRow (D := fGVerdict) (i := 2) rfl) (by decide)) ?_; intro w hb; replace S := S.grow hb; clear hb)))
  exact end1 rfl rfl ⟨rfl, S.below⟩
end Go.Proofs.YtijnbpnficcpmaaDoor
/- pick. -/
namespace Go.Proofs.YtijnbpnficcpmaaDoor
open Go Go.Gx Go.RowKit
set_option linter.unusedVariables false
set_option linter.unusedSimpArgs false

theorem pick_spec {c n : Int} {w : World} (hc0 : -9223372036854775808 ≤ c) (hc : c ≤ 9223372036854775807) (hn : 0 < n) : CallsV Tryd.prog 15 #[.int .i64 c, .int .i64 n] w (.int .i64 (pickI c n)) := by
  have S := St.start w
  refine CallsV.mk ?_
  refine calls_enter Tryd.func15 rfl (by intro _ h; first | exact nomatch h.1 | (obtain ⟨_, h, _⟩ := h; exact nomatch h)) Tryd.ntmps15 rfl ?_
  repeat' (first | refine WP_seq ?_ | refine WP_region ?_ | refine wl_nil ?_ | refine then_normal ?_ | refine WP_ret ?_ | refine WP_skip ?_ | (refine g_move ?_; refine st_move rfl ?_) | (refine g_assign ?_; refine st_assign rfl ?_) | (refine g_b_add ?_; (refine st_val rfl (r_addN rfl rfl ?_ ?_) ?_; (first | omega | (simp <;> omega)); (first | omega | (simp <;> omega)))) | (refine g_b_rem ?_; (refine st_val rfl (r_remN rfl rfl ?_ ?_) ?_; (first | omega | (simp <;> omega)); (first | omega | (simp <;> omega)))) | (refine g_b_lss ?_; refine st_val rfl (r_lss rfl rfl) ?_) | (refine g_un ?_; (refine st_val rfl (r_negN rfl ?_ ?_) ?_; (first | omega | (simp <;> omega)); (first | omega | (simp <;> omega)))) | (refine WP_cond rfl (fun h => ?_) (fun h => ?_) <;> (fail_if_success (have hh : true = true := h)) <;> (fail_if_success (have hh : false = false := h)) <;> (try simp only [decide_eq_true_eq, decide_eq_false_iff_not, Bool.not_eq_true', Bool.not_eq_false', Int.not_lt, Int.not_le] at h) <;> (try (exfalso; omega))))
  · exact end1 rfl rfl ⟨ri (by unfold pickI; rw [if_pos h]), S.below⟩
  · exact end1 rfl rfl ⟨ri (by unfold pickI; rw [if_neg (by omega)]), S.below⟩
theorem pick_is {c n x : Int} {w : World} (hx : pickI c n = x) (hc0 : -9223372036854775808 ≤ c) (hc : c ≤ 9223372036854775807) (hn : 0 < n) : CallsV Tryd.prog 15 #[.int .i64 c, .int .i64 n] w (.int .i64 x) := by
  rw [← hx]; exact pick_spec hc0 hc hn

theorem pickB_spec {c n : Int} {w : World} (hc0 : -9223372036854775808 ≤ c) (hc : c ≤ 9223372036854775807) (hn : 0 < n) : CallsV Tryd.prog 40 #[.int .i64 c, .int .i64 n] w (.int .i64 (pickI c n)) := by
  have S := St.start w
  refine CallsV.mk ?_
  refine calls_enter Tryd.func40 rfl (by intro _ h; first | exact nomatch h.1 | (obtain ⟨_, h, _⟩ := h; exact nomatch h)) Tryd.ntmps40 rfl ?_
  repeat' (first | refine WP_seq ?_ | refine WP_region ?_ | refine wl_nil ?_ | refine then_normal ?_ | refine WP_ret ?_ | refine WP_skip ?_ | (refine g_move ?_; refine st_move rfl ?_) | (refine g_assign ?_; refine st_assign rfl ?_) | (refine g_b_add ?_; (refine st_val rfl (r_addN rfl rfl ?_ ?_) ?_; (first | omega | (simp <;> omega)); (first | omega | (simp <;> omega)))) | (refine g_b_rem ?_; (refine st_val rfl (r_remN rfl rfl ?_ ?_) ?_; (first | omega | (simp <;> omega)); (first | omega | (simp <;> omega)))) | (refine g_b_lss ?_; refine st_val rfl (r_lss rfl rfl) ?_) | (refine g_un ?_; (refine st_val rfl (r_negN rfl ?_ ?_) ?_; (first | omega | (simp <;> omega)); (first | omega | (simp <;> omega)))) | (refine WP_cond rfl (fun h => ?_) (fun h => ?_) <;> (fail_if_success (have hh : true = true := h)) <;> (fail_if_success (have hh : false = false := h)) <;> (try simp only [decide_eq_true_eq, decide_eq_false_iff_not, Bool.not_eq_true', Bool.not_eq_false', Int.not_lt, Int.not_le] at h) <;> (try (exfalso; omega))))
  · exact end1 rfl rfl ⟨ri (by unfold pickI; rw [if_pos h]), S.below⟩
  · exact end1 rfl rfl ⟨ri (by unfold pickI; rw [if_neg (by omega)]), S.below⟩
end Go.Proofs.YtijnbpnficcpmaaDoor
/- What was heard, and verdicts that integers determine. -/
namespace Go.Proofs.YtijnbpnficcpmaaDoor
open Go Go.Gx Go.RowKit
set_option linter.unusedVariables false
set_option linter.unusedSimpArgs false

def HitT (vs : List GVerdict) (fr item t : Int) : Prop := fr ≤ t ∧ t < fr + vs.length ∧ nth vs (t - fr) = ⟨1, item⟩
theorem heard_is {vs : List GVerdict} {fr item a b : Int} {bb : Bool} {v : Value} {w0 : World} (h : (∃ t, a ≤ t ∧ t < b ∧ HitT vs fr item t) ↔ bb = true) (hr : Rd fGVerdict.ty w0 v vs) (hl : vs.length ≤ 1000000000) (hfr : 0 ≤ fr ∧ fr ≤ 1000000000) (ha : -1000000000 ≤ a ∧ a ≤ 1000000000) (hb : b ≤ 2000000000) :
    CallsV Tryd.prog 32 #[v, .int .i64 fr, .int .i64 item, .int .i64 a, .int .i64 b] w0 (.bool bb) := by
  have S := St.start w0
  obtain ⟨A, c, rfl⟩ := hr.len
  refine CallsV.mk ?_
  refine calls_enter Tryd.func32 rfl (by intro _ h; first | exact nomatch h.1 | (obtain ⟨_, h, _⟩ := h; exact nomatch h)) Tryd.ntmps32 rfl ?_
  repeat' (first | refine WP_seq ?_ | refine WP_region ?_ | refine wl_nil ?_ | refine then_normal ?_ | refine WP_block ?_ | (refine g_move ?_; refine st_move rfl ?_) | (refine g_assign ?_; refine st_assign rfl ?_))
  refine WP_loop (fun m σ w1 => ∃ (i : Int), Has σ [(0, .slice A vs.length c), (1, .int .i64 fr), (2, .int .i64 item), (4, .int .i64 b), (11, .int .i64 i)] ∧ St w0 w1 [] ∧ a ≤ i ∧ (∀ t, a ≤ t → t < i → ¬ HitT vs fr item t) ∧ m = (b - i).toNat) (b - a).toNat ⟨a, ⟨rfl, rfl, rfl, rfl, rfl, trivial⟩, S, by omega, fun t p q => by omega, rfl⟩ ?_
  clear S
  rintro m σ w1 ⟨i, hs, S, hi0, hno, rfl⟩
  refine WP_has hs ?_
  by_cases hi : i < b
  · by_cases hin : fr ≤ i ∧ i < fr + vs.length
    · by_cases hv : nth vs (i - fr) = ⟨1, item⟩
      · have e : bb = true := h.1 ⟨i, hi0, hi, hin.1, hin.2, hv⟩
        repeat' (first | refine WP_seq ?_ | refine WP_region ?_ | refine wl_nil ?_ | refine then_normal ?_ | refine then_ret ?_ | refine inB_ret ?_ | refine WP_ret ?_ | refine WP_skip ?_ | refine WP_block ?_ | (refine g_move ?_; refine st_move rfl ?_) | (refine g_assign ?_; refine st_assign rfl ?_) | (refine g_pick ?_; refine st_pickT rfl rfl ?_) | (refine g_b_add ?_; (refine st_val rfl (r_addN rfl rfl ?_ ?_) ?_; (first | omega | (simp <;> omega)); (first | omega | (simp <;> omega)))) | (refine g_b_sub ?_; (refine st_val rfl (r_subN rfl rfl ?_ ?_) ?_; (first | omega | (simp <;> omega)); (first | omega | (simp <;> omega)))) | (refine g_b_eql ?_; refine st_val rfl (eql60 rfl rfl) ?_) | (refine g_b_lss ?_; refine st_val rfl (r_lss rfl rfl) ?_) | (refine g_b_geq ?_; refine st_val rfl (r_geq rfl rfl) ?_) | (refine g_build ?_; refine st_val rfl (bd60_0_1 rfl rfl) ?_) | (refine g_c_len ?_; refine st_val rfl (r_lenSlice rfl) ?_) | (refine g_indexAddr ?_; (refine st_val rfl (r_indexAddr (hr.mono S.below) rfl rfl ?_ ?_) ?_; (first | omega | (simp <;> omega)); (first | omega | (simp <;> omega)))) | (refine g_load ?_; (refine st_val rfl (r_loadElem (hr.mono S.below) rfl ?_ ?_) ?_; (first | omega | (simp <;> omega)); (first | omega | (simp <;> omega)))) | (refine wl_split rfl rfl (fun h => ?_) (fun h => ?_) <;> (fail_if_success (have hh : true = true := h)) <;> (fail_if_success (have hh : false = false := h)) <;> (try simp only [decide_eq_true_eq, decide_eq_false_iff_not, Bool.not_eq_true', Bool.not_eq_false', Int.not_lt, Int.not_le] at h) <;> (try (exfalso; omega)) <;> (try (exfalso; exact absurd hv h; done))) | (refine WP_cond rfl (fun h => ?_) (fun h => ?_) <;> (fail_if_success (have hh : true = true := h)) <;> (fail_if_success (have hh : false = false := h)) <;> (try simp only [decide_eq_true_eq, decide_eq_false_iff_not, Bool.not_eq_true', Bool.not_eq_false', Int.not_lt, Int.not_le] at h) <;> (try (exfalso; omega)) <;> (try (exfalso; exact absurd hv h; done))))
        exact end1 rfl rfl ⟨rb e.symm, S.below⟩
      · repeat' (first | refine WP_seq ?_ | refine WP_region ?_ | refine wl_nil ?_ | refine then_normal ?_ | refine inB_normal ?_ | refine WP_skip ?_ | refine WP_block ?_ | (refine g_move ?_; refine st_move rfl ?_) | (refine g_assign ?_; refine st_assign rfl ?_) | (refine g_pick ?_; refine st_pickT rfl rfl ?_) | (refine g_b_add ?_; (refine st_val rfl (r_addN rfl rfl ?_ ?_) ?_; (first | omega | (simp <;> omega)); (first | omega | (simp <;> omega)))) | (refine g_b_sub ?_; (refine st_val rfl (r_subN rfl rfl ?_ ?_) ?_; (first | omega | (simp <;> omega)); (first | omega | (simp <;> omega)))) | (refine g_b_eql ?_; refine st_val rfl (eql60 rfl rfl) ?_) | (refine g_b_lss ?_; refine st_val rfl (r_lss rfl rfl) ?_) | (refine g_b_geq ?_; refine st_val rfl (r_geq rfl rfl) ?_) | (refine g_build ?_; refine st_val rfl (bd60_0_1 rfl rfl) ?_) | (refine g_c_len ?_; refine st_val rfl (r_lenSlice rfl) ?_) | (refine g_indexAddr ?_; (refine st_val rfl (r_indexAddr (hr.mono S.below) rfl rfl ?_ ?_) ?_; (first | omega | (simp <;> omega)); (first | omega | (simp <;> omega)))) | (refine g_load ?_; (refine st_val rfl (r_loadElem (hr.mono S.below) rfl ?_ ?_) ?_; (first | omega | (simp <;> omega)); (first | omega | (simp <;> omega)))) | (refine wl_split rfl rfl (fun h => ?_) (fun h => ?_) <;> (fail_if_success (have hh : true = true := h)) <;> (fail_if_success (have hh : false = false := h)) <;> (try simp only [decide_eq_true_eq, decide_eq_false_iff_not, Bool.not_eq_true', Bool.not_eq_false', Int.not_lt, Int.not_le] at h) <;> (try (exfalso; omega)) <;> (try (exfalso; exact absurd h hv; done))) | (refine WP_cond rfl (fun h => ?_) (fun h => ?_) <;> (fail_if_success (have hh : true = true := h)) <;> (fail_if_success (have hh : false = false := h)) <;> (try simp only [decide_eq_true_eq, decide_eq_false_iff_not, Bool.not_eq_true', Bool.not_eq_false', Int.not_lt, Int.not_le] at h) <;> (try (exfalso; omega)) <;> (try (exfalso; exact absurd h hv; done))))
        refine ⟨⟨_, ?_, i + 1, ⟨rfl, rfl, rfl, rfl, rfl, trivial⟩, S, by omega, fun t p q => ?_, rfl⟩⟩
        · omega
        · by_cases e : t = i
          · subst e; exact fun hh => hv hh.2.2
          · exact hno t p (by omega)
    · repeat' (first | refine WP_seq ?_ | refine WP_region ?_ | refine wl_nil ?_ | refine then_normal ?_ | refine inB_normal ?_ | refine WP_skip ?_ | refine WP_block ?_ | refine WP_condF rfl ?_ | (refine g_guard ?_; refine st_off rfl ?_) | (refine g_move ?_; refine st_move rfl ?_) | (refine g_assign ?_; refine st_assign rfl ?_) | (refine g_pick ?_; first | refine st_pickT rfl rfl ?_ | refine st_pickF rfl rfl ?_) | (refine g_b_add ?_; (refine st_val rfl (r_addN rfl rfl ?_ ?_) ?_; (first | omega | (simp <;> omega)); (first | omega | (simp <;> omega)))) | (refine g_b_lss ?_; refine st_val rfl (r_lss rfl rfl) ?_) | (refine g_b_geq ?_; refine st_val rfl (r_geq rfl rfl) ?_) | (refine g_c_len ?_; refine st_val rfl (r_lenSlice rfl) ?_) | (refine wl_split rfl rfl (fun h => ?_) (fun h => ?_) <;> (fail_if_success (have hh : true = true := h)) <;> (fail_if_success (have hh : false = false := h)) <;> (try simp only [decide_eq_true_eq, decide_eq_false_iff_not, Bool.not_eq_true', Bool.not_eq_false', Int.not_lt, Int.not_le] at h) <;> (try (exfalso; omega))) | (refine WP_cond rfl (fun h => ?_) (fun h => ?_) <;> (fail_if_success (have hh : true = true := h)) <;> (fail_if_success (have hh : false = false := h)) <;> (try simp only [decide_eq_true_eq, decide_eq_false_iff_not, Bool.not_eq_true', Bool.not_eq_false', Int.not_lt, Int.not_le] at h) <;> (try (exfalso; omega))))
      all_goals
        refine ⟨⟨_, ?_, i + 1, ⟨rfl, rfl, rfl, rfl, rfl, trivial⟩, S, by omega, fun t p q => ?_, rfl⟩⟩
        · omega
        · by_cases e : t = i
          · subst e; exact fun hh => hin ⟨hh.1, hh.2.1⟩
          · exact hno t p (by omega)
  · have e : bb = false := by
      cases bb with
      | false => rfl
      | true =>
        obtain ⟨t, p, q, hh⟩ := h.2 rfl
        exact absurd hh (hno t p (by omega))
    repeat' (first | refine WP_seq ?_ | refine WP_region ?_ | refine wl_nil ?_ | refine then_normal ?_ | refine then_exit ?_ | refine inB_here ?_ | refine WP_ret ?_ | refine WP_exit ?_ | (refine g_move ?_; refine st_move rfl ?_) | (refine g_assign ?_; refine st_assign rfl ?_) | (refine g_b_lss ?_; refine st_val rfl (r_lss rfl rfl) ?_) | (refine WP_cond rfl (fun h => ?_) (fun h => ?_) <;> (fail_if_success (have hh : true = true := h)) <;> (fail_if_success (have hh : false = false := h)) <;> (try simp only [decide_eq_true_eq, decide_eq_false_iff_not, Bool.not_eq_true', Bool.not_eq_false', Int.not_lt, Int.not_le] at h) <;> (try (exfalso; omega))))
    exact end1 rfl rfl ⟨rb e.symm, S.below⟩
/-! ### Verdicts -/
def verdB (l : List GContract) (item x : Int) : GVerdict :=
  if pickI x 5 = 1 ∧ 0 < (l.length : Int) then ⟨1, (nth l (pickI (x.tdiv 5) l.length)).Item⟩ else if pickI x 5 = 2 ∨ pickI x 5 = 3 then ⟨2 + pickI (x.tdiv 5) 3, 0⟩ else ⟨1, item⟩
def spotV (sp : List GSpot) (which : Int) : GSpot := nth sp (pickI which sp.length)
def frV (sp : List GSpot) (which : Int) : Int := if 0 < (sp.length : Int) then max ((spotV sp which).At - pickI (which.tdiv 7) 12) 0 else 0
def itV (l : List GContract) (sp : List GSpot) (which : Int) : Int := if 0 < (sp.length : Int) ∧ 0 ≤ findI l (spotV sp which).Contract then (nth l (findI l (spotV sp which).Contract)).Item else 0
def verN (l : List GContract) (item : Int) (xs : List Int) (n : Nat) : List GVerdict := (List.range n).map fun (i : Nat) => verdB l item (nth xs (i : Int))
def verL (l : List GContract) (sp : List GSpot) (which : Int) (xs : List Int) : List GVerdict := verN l (itV l sp which) xs (min xs.length 40)
theorem verN_succ {l : List GContract} {item : Int} {xs : List Int} {n : Nat} : verN l item xs (n + 1) = verN l item xs n ++ [verdB l item (nth xs (n : Int))] := by unfold verN; rw [List.range_succ, List.map_append]; rfl
theorem verN_len {l : List GContract} {item : Int} {xs : List Int} {n : Nat} : (verN l item xs n).length = n := by simp [verN]
theorem tdivk {x : Int} {k : Int} (hk : 1 < k) (h0 : -9223372036854775808 ≤ x) (h1 : x ≤ 9223372036854775807) : -9223372036854775808 ≤ x.tdiv k ∧ x.tdiv k ≤ 9223372036854775807 := by
  rcases Int.le_total 0 x with h | h
  · rw [Int.tdiv_eq_ediv_of_nonneg h]
    have a1 := Int.ediv_nonneg h (show 0 ≤ k by omega)
    have a2 := Int.ediv_le_self k h
    omega
  · have e : x.tdiv k = -((-x).tdiv k) := by rw [Int.neg_tdiv, Int.neg_neg]
    have hh : 0 ≤ -x := by omega
    rw [e, Int.tdiv_eq_ediv_of_nonneg hh]
    have a1 := Int.ediv_nonneg hh (show 0 ≤ k by omega)
    have a2 := Int.ediv_le_self k hh
    omega
theorem item_rng {l : List GContract} (h : validC l = true) {c : GContract} (hc : c ∈ l) : 0 ≤ c.Item ∧ c.Item ≤ 199 := by
  have := valid_ok h hc
  unfold okC okN at this
  simp only [Bool.and_eq_true, decide_eq_true_eq] at this
  omega
theorem itV_rng {l : List GContract} (h : validC l = true) {sp : List GSpot} {which : Int} : 0 ≤ itV l sp which ∧ itV l sp which ≤ 199 := by
  unfold itV
  split
  · rename_i hc
    rcases find_cases l (spotV sp which).Contract with ⟨e, _⟩ | ⟨h0, h1, _⟩
    · omega
    · exact item_rng h (nth_mem h0 h1)
  · omega
theorem verdB_ok {l : List GContract} (h : validC l = true) {item x : Int} (hi : 0 ≤ item ∧ item ≤ 199) : badV (verdB l item x) = false := by
  have r3 := pickI_range (c := x.tdiv 5) (n := 3) (by omega)
  unfold verdB badV
  split
  · rename_i hc
    have rl := pickI_range (c := x.tdiv 5) (n := (l.length : Int)) hc.2
    have := item_rng h (nth_mem rl.1 rl.2)
    rw [decide_eq_false_iff_not]; simp only; omega
  · split
    · rw [decide_eq_false_iff_not]
      exact fun hh => hh ⟨(by show (1 : Int) ≤ 2 + _; omega), (by show 2 + _ ≤ (4 : Int); omega), Int.le_refl _, (by show (0 : Int) ≤ 199; decide), fun _ => rfl⟩
    · rw [decide_eq_false_iff_not]
      exact fun hh => hh ⟨Int.le_refl _, (by show (1 : Int) ≤ 4; decide), hi.1, hi.2, fun h => absurd rfl h⟩
theorem validV_of {vs : List GVerdict} (hl : vs.length ≤ 200) (h : ∀ x ∈ vs, badV x = false) : validV vs = true := by
  unfold validV
  rw [decide_eq_true hl, Bool.true_and, Bool.not_eq_true', List.any_eq_false]
  exact fun x hx => by rw [h x hx]; simp
theorem verL_ok {l : List GContract} (h : validC l = true) {sp : List GSpot} {which : Int} {xs : List Int} : validV (verL l sp which xs) = true := by
  refine validV_of (by unfold verL; rw [verN_len]; omega) fun x hx => ?_
  unfold verL verN at hx
  obtain ⟨k, _, rfl⟩ := List.mem_map.1 hx
  exact verdB_ok h (itV_rng h)
theorem one_ve : ∀ (x : GVerdict), ∀ u ∈ fGVerdict.enc x, u.oneCell' = true := by intro x u hu; simp [fGVerdict, GVerdict.enc] at hu; rcases hu with rfl | rfl <;> rfl
set_option maxHeartbeats 2000000 in
theorem verd_run {l : List GContract} {sp : List GSpot} {which : Int} {xs : List Int} {v1 v2 v3 : Value} {w0 : World} (hr1 : Rd fGContract.ty w0 v1 l) (hr2 : Rd fGSpot.ty w0 v2 sp) (hw : inI which) (hr3 : Rd (fInt .i64).ty w0 v3 xs) (hx : ∀ x ∈ xs, inI x) (hl1 : l.length ≤ 1000000000) (hl2 : sp.length ≤ 1000000000) (hl3 : xs.length ≤ maxLen) (hok : okI l sp = true) :
    CallsR Tryd.prog 13 #[v1, v2, .int .i64 which, v3] w0 (fun r w' => ∃ vo, r = .tuple #[vo, .int .i64 (frV sp which)] ∧ NewRow fGVerdict 60 w0 w' vo (verL l sp which xs)) := by
  have S := St.start w0
  have hml : maxLen ≤ 9223372036854775807 := by decide
  obtain ⟨A, c, rfl⟩ := hr1.len
  obtain ⟨A2, c2, rfl⟩ := hr2.len
  obtain ⟨A3, c3, rfl⟩ := hr3.len
  have hsp := okP_sp hok
  have hw0 : -9223372036854775808 ≤ which := hw.1
  have hw1 : which ≤ 9223372036854775807 := hw.2
  refine CallsR.mk ?_
  refine calls_enter Tryd.func13 rfl (by intro _ h; first | exact nomatch h.1 | (obtain ⟨_, h, _⟩ := h; exact nomatch h)) Tryd.ntmps13 rfl ?_
  repeat' (first | refine WP_seq ?_ | refine WP_region ?_ | refine wl_nil ?_ | refine then_normal ?_ | (refine g_move ?_; refine st_move rfl ?_) | (refine g_assign ?_; refine st_assign rfl ?_) | (refine g_b_gtr ?_; refine st_val rfl (r_gtr rfl rfl) ?_) | (refine g_c_len ?_; refine st_val rfl (r_lenSlice rfl) ?_))
  refine WP_then_cut (fun σ w1 => ∃ (fr item : Int), Has σ [(0, .slice A l.length c), (3, .slice A3 xs.length c3), (10, .int .i64 fr), (11, .int .i64 item)] ∧ St w0 w1 [] ∧ fr = frV sp which ∧ item = itV l sp which) ?_ ?_
  · by_cases h0 : 0 < (sp.length : Int)
    · have rl := pickI_range (c := which) (n := (sp.length : Int)) h0
      have r12 := pickI_range (c := which.tdiv 7) (n := 12) (by omega)
      have hat := hsp _ (nth_mem rl.1 rl.2)
      have t7 := tdivk (k := 7) (by omega) hw.1 hw.2
      have efr : frV sp which = max ((nth sp (pickI which sp.length)).At - pickI (which.tdiv 7) 12) 0 := by unfold frV spotV; rw [if_pos h0]
      rcases find_cases l (nth sp (pickI which sp.length)).Contract with ⟨e, _⟩ | ⟨e0, e1, _⟩
      · have eit : itV l sp which = 0 := by unfold itV spotV; rw [if_neg (by omega)]
        repeat' (first | refine WP_seq ?_ | refine WP_region ?_ | refine wl_nil ?_ | refine then_normal ?_ | refine WP_skip ?_ | refine WP_draw (by kernel_rfl) (by kernel_rfl) ?_ | (refine ql_nil ?_; intro w hb; replace S := S.grow hb; clear hb) | (refine g_move ?_; refine st_move rfl ?_) | (refine g_assign ?_; refine st_assign rfl ?_) | (refine g_b_geq ?_; refine st_val rfl (r_geq rfl rfl) ?_) | (refine g_c_len ?_; refine st_val rfl (r_lenSlice rfl) ?_) | (refine g_fieldAddr ?_; refine st_val rfl (r_fieldAddrL rfl) ?_) | (refine g_indexAddr ?_; (refine st_val rfl (r_indexAddr (hr2.mono S.below) rfl rfl ?_ ?_) ?_; (first | omega | (simp <;> omega)); (first | omega | (simp <;> omega)))) | (refine g_load ?_; first | (refine st_val rfl (r_loadElem (hr2.mono S.below) rfl ?_ ?_) ?_; (first | omega | (simp <;> omega)); (first | omega | (simp <;> omega))) | refine st_val rfl (r_loadVar (i := 0) S rfl rfl rfl) ?_) | (refine g_callV ?_; first | (refine st_callV rfl (r_call2 rfl rfl rfl) (pickB_spec hw.1 hw.2 h0) ?_; intro w hb; replace S := S.grow hb; clear hb) | (refine st_callV rfl (r_call2 rfl rfl rfl) (find_spec (hr1.mono S.below) hl1) ?_; intro w hb; replace S := S.grow hb; clear hb)) | (refine gq_move ?_; refine q_move rfl ?_) | (refine gq_assign ?_; refine q_assign rfl ?_) | (refine gq_b_sub ?_; (refine q_val rfl (fun w' hb => r_subN rfl rfl ?_ ?_) ?_; (first | omega | (simp <;> omega)); (first | omega | (simp <;> omega)))) | (refine gq_b_quo ?_; (refine q_val rfl (fun w' hb => r_quoT rfl rfl ?_ ?_ ?_) ?_; (first | omega | (simp <;> omega)); (first | omega | (simp <;> omega)); (first | omega | (simp <;> omega)))) | (refine gq_c_max ?_; refine q_val rfl (fun w' hb => r_max2 rfl rfl) ?_) | (refine gq_fieldAddr ?_; refine q_val rfl (fun w' hb => r_fieldAddrL rfl) ?_) | (refine gq_load ?_; refine q_val rfl (fun w' hb => r_loadVar (i := 0) (S.grow hb) rfl rfl rfl) ?_) | (refine gq_callV ?_; refine q_callV rfl (fun w' hb => r_call2 rfl rfl rfl) (fun w' hb => pickB_spec (c := which.tdiv 7) (n := 12) t7.1 t7.2 (by omega)) ?_) | (refine g_alloc ?_; refine st_valE rfl (r_alloc S) ?_; rintro _ w ⟨b, rfl, -, S'⟩; replace S := S'; clear S') | (refine g_store ?_; (refine st_skipE rfl (r_storeVar (i := 0) S rfl rfl rfl rfl (of_decide_eq_true rfl) (of_decide_eq_true rfl)) ?_; intro w S'; replace S := S'; clear S')) | (refine WP_cond rfl (fun h => ?_) (fun h => ?_) <;> (fail_if_success (have hh : true = true := h)) <;> (fail_if_success (have hh : false = false := h)) <;> (try simp only [decide_eq_true_eq, decide_eq_false_iff_not, Bool.not_eq_true', Bool.not_eq_false', Int.not_lt, Int.not_le] at h) <;> (try (exfalso; omega)) <;> (try (exfalso; omega; done))))
        exact ⟨_, _, ⟨rfl, rfl, rfl, rfl, trivial⟩, S.keep [], efr.symm, eit.symm⟩
      · have eit : itV l sp which = (nth l (findI l (nth sp (pickI which sp.length)).Contract)).Item := by unfold itV spotV; rw [if_pos ⟨h0, e0⟩]
        repeat' (first | refine WP_seq ?_ | refine WP_region ?_ | refine wl_nil ?_ | refine then_normal ?_ | refine WP_draw (by kernel_rfl) (by kernel_rfl) ?_ | (refine ql_nil ?_; intro w hb; replace S := S.grow hb; clear hb) | (refine g_move ?_; refine st_move rfl ?_) | (refine g_assign ?_; refine st_assign rfl ?_) | (refine g_b_geq ?_; refine st_val rfl (r_geq rfl rfl) ?_) | (refine g_c_len ?_; refine st_val rfl (r_lenSlice rfl) ?_) | (refine g_fieldAddr ?_; first | refine st_val rfl (r_fieldAddrL rfl) ?_ | refine st_val rfl (r_fieldAddr rfl) ?_) | (refine g_indexAddr ?_; first | (refine st_val rfl (r_indexAddr (hr2.mono S.below) rfl rfl ?_ ?_) ?_; (first | omega | (simp <;> omega)); (first | omega | (simp <;> omega))) | (refine st_val rfl (r_indexAddr (hr1.mono S.below) rfl rfl ?_ ?_) ?_; (first | omega | (simp <;> omega)); (first | omega | (simp <;> omega)))) | (refine g_load ?_; first | (refine st_val rfl (r_loadElem (hr2.mono S.below) rfl ?_ ?_) ?_; (first | omega | (simp <;> omega)); (first | omega | (simp <;> omega))) | (refine st_val rfl (r_loadElemF (hr1.mono S.below) rfl ?_ ?_ rfl) ?_; (first | omega | (simp <;> omega)); (first | omega | (simp <;> omega))) | refine st_val rfl (r_loadVar (i := 0) S rfl rfl rfl) ?_) | (refine g_callV ?_; first | (refine st_callV rfl (r_call2 rfl rfl rfl) (pickB_spec hw.1 hw.2 h0) ?_; intro w hb; replace S := S.grow hb; clear hb) | (refine st_callV rfl (r_call2 rfl rfl rfl) (find_spec (hr1.mono S.below) hl1) ?_; intro w hb; replace S := S.grow hb; clear hb)) | (refine gq_move ?_; refine q_move rfl ?_) | (refine gq_assign ?_; refine q_assign rfl ?_) | (refine gq_b_sub ?_; (refine q_val rfl (fun w' hb => r_subN rfl rfl ?_ ?_) ?_; (first | omega | (simp <;> omega)); (first | omega | (simp <;> omega)))) | (refine gq_b_quo ?_; (refine q_val rfl (fun w' hb => r_quoT rfl rfl ?_ ?_ ?_) ?_; (first | omega | (simp <;> omega)); (first | omega | (simp <;> omega)); (first | omega | (simp <;> omega)))) | (refine gq_c_max ?_; refine q_val rfl (fun w' hb => r_max2 rfl rfl) ?_) | (refine gq_fieldAddr ?_; refine q_val rfl (fun w' hb => r_fieldAddrL rfl) ?_) | (refine gq_load ?_; refine q_val rfl (fun w' hb => r_loadVar (i := 0) (S.grow hb) rfl rfl rfl) ?_) | (refine gq_callV ?_; refine q_callV rfl (fun w' hb => r_call2 rfl rfl rfl) (fun w' hb => pickB_spec (c := which.tdiv 7) (n := 12) t7.1 t7.2 (by omega)) ?_) | (refine g_alloc ?_; refine st_valE rfl (r_alloc S) ?_; rintro _ w ⟨b, rfl, -, S'⟩; replace S := S'; clear S') | (refine g_store ?_; (refine st_skipE rfl (r_storeVar (i := 0) S rfl rfl rfl rfl (of_decide_eq_true rfl) (of_decide_eq_true rfl)) ?_; intro w S'; replace S := S'; clear S')) | (refine WP_cond rfl (fun h => ?_) (fun h => ?_) <;> (fail_if_success (have hh : true = true := h)) <;> (fail_if_success (have hh : false = false := h)) <;> (try simp only [decide_eq_true_eq, decide_eq_false_iff_not, Bool.not_eq_true', Bool.not_eq_false', Int.not_lt, Int.not_le] at h) <;> (try (exfalso; omega)) <;> (try (exfalso; omega; done))))
        exact ⟨_, _, ⟨rfl, rfl, rfl, rfl, trivial⟩, S.keep [], efr.symm, eit.symm⟩
    · repeat' (first | refine then_normal ?_ | refine WP_skip ?_ | (refine WP_cond rfl (fun h => ?_) (fun h => ?_) <;> (fail_if_success (have hh : true = true := h)) <;> (fail_if_success (have hh : false = false := h)) <;> (try simp only [decide_eq_true_eq, decide_eq_false_iff_not, Bool.not_eq_true', Bool.not_eq_false', Int.not_lt, Int.not_le] at h) <;> (try (exfalso; omega)) <;> (try (exfalso; omega; done))))
      exact ⟨_, _, ⟨rfl, rfl, rfl, rfl, trivial⟩, S, (if_neg h0).symm, (if_neg (fun h => h0 h.1)).symm⟩
  clear S
  rintro σ w1 ⟨fr, item, hs, S, efr, eit⟩
  refine WP_has hs ?_
  repeat' (first | refine WP_seq ?_ | refine WP_region ?_ | refine wl_nil ?_ | refine then_normal ?_ | refine WP_block ?_ | (refine g_assign ?_; refine st_assign rfl ?_))
  replace S := S.nilRow fGVerdict 60
  refine WP_loop (fun m σ w1 => ∃ (i : Nat) (p : Int) (vo : Value), Has σ [(0, .slice A l.length c), (3, .slice A3 xs.length c3), (10, .int .i64 fr), (11, .int .i64 item), (14, vo), (15, .int .i64 p)] ∧ St w0 w1 [rowOb fGVerdict 60 vo (verN l item xs i)] ∧ p = i ∧ i ≤ min xs.length 40 ∧ m = 40 - i) 40 ⟨0, _, _, ⟨rfl, rfl, rfl, rfl, rfl, rfl, trivial⟩, S, rfl, by omega, by omega⟩ ?_
  clear S hs
  rintro m σ w1 ⟨i, p, vo, hs, S, hp, hi1, hm⟩
  refine WP_has hs ?_
  have hol := @verN_len l item xs i
  by_cases hi : i < min xs.length 40
  · obtain ⟨x0, x1⟩ := hx _ (nth_mem (l := xs) (i := p) (by omega) (by omega))
    obtain ⟨x, hxe⟩ : ∃ x, nth xs p = x := ⟨_, rfl⟩
    have td := tdivk (k := 5) (by omega) x0 x1
    have r5 := pickI_range (c := nth xs p) (n := 5) (by omega)
    have r3 := pickI_range (c := (nth xs p).tdiv 5) (n := 3) (by omega)
    have evb : verdB l item (nth xs p) = if pickI (nth xs p) 5 = 1 ∧ 0 < (l.length : Int) then ⟨1, (nth l (pickI ((nth xs p).tdiv 5) l.length)).Item⟩ else if pickI (nth xs p) 5 = 2 ∨ pickI (nth xs p) 5 = 3 then ⟨2 + pickI ((nth xs p).tdiv 5) 3, 0⟩ else ⟨1, item⟩ := rfl
    by_cases c1 : pickI (nth xs p) 5 = 1
    · by_cases c2 : 0 < (l.length : Int)
      · rw [if_pos ⟨c1, c2⟩] at evb
        have rl := pickI_range (c := (nth xs p).tdiv 5) (n := (l.length : Int)) c2
        repeat' (first | refine WP_seq ?_ | refine WP_region ?_ | refine wl_nil ?_ | refine then_normal ?_ | refine inB_normal ?_ | refine WP_skip ?_ | refine WP_block ?_ | (refine g_move ?_; refine st_move rfl ?_) | (refine g_assign ?_; refine st_assign rfl ?_) | (refine g_pick ?_; refine st_pickT rfl rfl ?_) | (refine g_b_quo ?_; (refine st_val rfl (r_quoT rfl rfl ?_ ?_ ?_) ?_; (first | omega | (simp <;> omega)); (first | omega | (simp <;> omega)); (first | omega | (simp <;> omega)))) | (refine g_b_eql ?_; refine st_val rfl (r_eql rfl rfl) ?_) | (refine g_b_lss ?_; refine st_val rfl (r_lss rfl rfl) ?_) | (refine g_b_gtr ?_; refine st_val rfl (r_gtr rfl rfl) ?_) | (refine g_build ?_; refine st_val rfl (bd60_0_1 rfl rfl) ?_) | (refine g_c_len ?_; refine st_val rfl (r_lenSlice rfl) ?_) | (refine g_fieldAddr ?_; first | refine st_val rfl (r_fieldAddrL rfl) ?_ | refine st_val rfl (r_fieldAddr rfl) ?_) | (refine g_indexAddr ?_; first | (refine st_val rfl (r_indexAddr (hr3.mono S.below) rfl rfl ?_ ?_) ?_; (first | omega | (simp <;> omega)); (first | omega | (simp <;> omega))) | (refine st_val rfl (r_indexAddr (hr1.mono S.below) rfl rfl ?_ ?_) ?_; (first | omega | (simp <;> omega)); (first | omega | (simp <;> omega)))) | (refine g_load ?_; first | (refine st_val rfl (r_loadElem1 (hr3.mono S.below) rfl ?_ ?_ rfl) ?_; (first | omega | (simp <;> omega)); (first | omega | (simp <;> omega))) | (refine st_val rfl (r_loadElemF (hr1.mono S.below) rfl ?_ ?_ rfl) ?_; (first | omega | (simp <;> omega)); (first | omega | (simp <;> omega))) | refine st_val rfl (r_loadVarA (i := 1) S rfl rfl rfl rfl) ?_) | (refine g_callV ?_; (refine st_callV rfl (r_call2 rfl rfl rfl) (pickB_spec (by omega) (by omega) (by omega)) ?_; intro w hb; replace S := S.grow hb; clear hb)) | (refine g_alloc ?_; refine st_valE rfl (r_alloc S) ?_; rintro _ w ⟨b, rfl, -, S'⟩; replace S := S'; clear S') | (refine g_store ?_; first | (refine st_skipE rfl (r_storeVar (i := 0) S rfl rfl rfl rfl (of_decide_eq_true rfl) (of_decide_eq_true rfl)) ?_; intro w S'; replace S := S'; clear S') | (refine st_skipE rfl (r_storeVar (i := 1) S rfl rfl rfl rfl (of_decide_eq_true rfl) (of_decide_eq_true rfl)) ?_; intro w S'; replace S := S'; clear S')) | (refine wl_split rfl rfl (fun h => ?_) (fun h => ?_) <;> (fail_if_success (have hh : true = true := h)) <;> (fail_if_success (have hh : false = false := h)) <;> (try simp only [decide_eq_true_eq, decide_eq_false_iff_not, Bool.not_eq_true', Bool.not_eq_false', Int.not_lt, Int.not_le] at h) <;> (try (exfalso; omega)) <;> (try (exfalso; omega; done))) | (refine WP_cond rfl (fun h => ?_) (fun h => ?_) <;> (fail_if_success (have hh : true = true := h)) <;> (fail_if_success (have hh : false = false := h)) <;> (try simp only [decide_eq_true_eq, decide_eq_false_iff_not, Bool.not_eq_true', Bool.not_eq_false', Int.not_lt, Int.not_le] at h) <;> (try (exfalso; omega)) <;> (try (exfalso; omega; done))))
        all_goals
          refine st_valE rfl (r_litF (D := fGVerdict) [verdB l item (nth xs p)] (fun y => .agg y.enc.toArray) S (by rw [evb]; rfl) rfl (fun _ => rfl) rfl (Nat.succ_pos _) (by show 1 * 2 ≤ _; decide)) ?_
          rintro _ w ⟨bl, rfl, -, hcl, S'⟩; replace S := S'; clear S'
          refine st_valE rfl (r_append1 (D := fGVerdict) (i := 0) (b := bl) (x := verdB l item (nth xs p)) S rfl rfl rfl (fl_one hcl) rfl (by decide) (one_ve _) (by omega) (by omega)) ?_
          rintro vo' w ⟨-, S'⟩; replace S := S'; clear S' hcl
          repeat' (first | refine WP_region ?_ | refine wl_nil ?_ | refine then_normal ?_ | refine inB_normal ?_ | (refine g_move ?_; refine st_move rfl ?_) | (refine g_assign ?_; refine st_assign rfl ?_) | (refine g_b_add ?_; (refine st_val rfl (r_addN rfl rfl ?_ ?_) ?_; (first | omega | (simp <;> omega)); (first | omega | (simp <;> omega)))))
          refine ⟨⟨_, ?_, i + 1, _, vo', ⟨rfl, rfl, rfl, rfl, rfl, rfl, trivial⟩, by rw [verN_succ, ← hp]; exact S.keep [true], by omega, by omega, rfl⟩⟩
          omega
      · rw [if_neg (fun h => c2 h.2), if_neg (by omega)] at evb
        repeat' (first | refine WP_seq ?_ | refine WP_region ?_ | refine wl_nil ?_ | refine then_normal ?_ | refine inB_normal ?_ | refine WP_skip ?_ | refine WP_block ?_ | (refine g_move ?_; refine st_move rfl ?_) | (refine g_assign ?_; refine st_assign rfl ?_) | (refine g_pick ?_; refine st_pickT rfl rfl ?_) | (refine g_b_eql ?_; refine st_val rfl (r_eql rfl rfl) ?_) | (refine g_b_lss ?_; refine st_val rfl (r_lss rfl rfl) ?_) | (refine g_b_gtr ?_; refine st_val rfl (r_gtr rfl rfl) ?_) | (refine g_build ?_; refine st_val rfl (bd60_0_1 rfl rfl) ?_) | (refine g_c_len ?_; refine st_val rfl (r_lenSlice rfl) ?_) | (refine g_indexAddr ?_; (refine st_val rfl (r_indexAddr (hr3.mono S.below) rfl rfl ?_ ?_) ?_; (first | omega | (simp <;> omega)); (first | omega | (simp <;> omega)))) | (refine g_load ?_; first | (refine st_val rfl (r_loadElem1 (hr3.mono S.below) rfl ?_ ?_ rfl) ?_; (first | omega | (simp <;> omega)); (first | omega | (simp <;> omega))) | refine st_val rfl (r_loadVarA (i := 1) S rfl rfl rfl rfl) ?_) | (refine g_callV ?_; (refine st_callV rfl (r_call2 rfl rfl rfl) (pickB_spec (by omega) (by omega) (by omega)) ?_; intro w hb; replace S := S.grow hb; clear hb)) | (refine g_alloc ?_; refine st_valE rfl (r_alloc S) ?_; rintro _ w ⟨b, rfl, -, S'⟩; replace S := S'; clear S') | (refine g_store ?_; first | (refine st_skipE rfl (r_storeVar (i := 0) S rfl rfl rfl rfl (of_decide_eq_true rfl) (of_decide_eq_true rfl)) ?_; intro w S'; replace S := S'; clear S') | (refine st_skipE rfl (r_storeVar (i := 1) S rfl rfl rfl rfl (of_decide_eq_true rfl) (of_decide_eq_true rfl)) ?_; intro w S'; replace S := S'; clear S')) | (refine wl_split rfl rfl (fun h => ?_) (fun h => ?_) <;> (fail_if_success (have hh : true = true := h)) <;> (fail_if_success (have hh : false = false := h)) <;> (try simp only [decide_eq_true_eq, decide_eq_false_iff_not, Bool.not_eq_true', Bool.not_eq_false', Int.not_lt, Int.not_le] at h) <;> (try (exfalso; omega)) <;> (try (exfalso; omega; done))) | (refine WP_cond rfl (fun h => ?_) (fun h => ?_) <;> (fail_if_success (have hh : true = true := h)) <;> (fail_if_success (have hh : false = false := h)) <;> (try simp only [decide_eq_true_eq, decide_eq_false_iff_not, Bool.not_eq_true', Bool.not_eq_false', Int.not_lt, Int.not_le] at h) <;> (try (exfalso; omega)) <;> (try (exfalso; omega; done))))
        all_goals
          refine st_valE rfl (r_litF (D := fGVerdict) [verdB l item (nth xs p)] (fun y => .agg y.enc.toArray) S (by rw [evb]; rfl) rfl (fun _ => rfl) rfl (Nat.succ_pos _) (by show 1 * 2 ≤ _; decide)) ?_
          rintro _ w ⟨bl, rfl, -, hcl, S'⟩; replace S := S'; clear S'
          refine st_valE rfl (r_append1 (D := fGVerdict) (i := 0) (b := bl) (x := verdB l item (nth xs p)) S rfl rfl rfl (fl_one hcl) rfl (by decide) (one_ve _) (by omega) (by omega)) ?_
          rintro vo' w ⟨-, S'⟩; replace S := S'; clear S' hcl
          repeat' (first | refine WP_region ?_ | refine wl_nil ?_ | refine then_normal ?_ | refine inB_normal ?_ | (refine g_move ?_; refine st_move rfl ?_) | (refine g_assign ?_; refine st_assign rfl ?_) | (refine g_b_add ?_; (refine st_val rfl (r_addN rfl rfl ?_ ?_) ?_; (first | omega | (simp <;> omega)); (first | omega | (simp <;> omega)))))
          refine ⟨⟨_, ?_, i + 1, _, vo', ⟨rfl, rfl, rfl, rfl, rfl, rfl, trivial⟩, by rw [verN_succ, ← hp]; exact S.keep [true], by omega, by omega, rfl⟩⟩
          omega
    · by_cases c2 : pickI (nth xs p) 5 = 2 ∨ pickI (nth xs p) 5 = 3
      · rw [if_neg (fun h => c1 h.1), if_pos c2] at evb
        repeat' (first | refine WP_seq ?_ | refine WP_region ?_ | refine wl_nil ?_ | refine then_normal ?_ | refine inB_normal ?_ | refine WP_skip ?_ | refine WP_block ?_ | (refine g_move ?_; refine st_move rfl ?_) | (refine g_assign ?_; refine st_assign rfl ?_) | (refine g_pick ?_; refine st_pickT rfl rfl ?_) | (refine g_b_add ?_; (refine st_val rfl (r_addN rfl rfl ?_ ?_) ?_; (first | omega | (simp <;> omega)); (first | omega | (simp <;> omega)))) | (refine g_b_quo ?_; (refine st_val rfl (r_quoT rfl rfl ?_ ?_ ?_) ?_; (first | omega | (simp <;> omega)); (first | omega | (simp <;> omega)); (first | omega | (simp <;> omega)))) | (refine g_b_eql ?_; refine st_val rfl (r_eql rfl rfl) ?_) | (refine g_b_lss ?_; refine st_val rfl (r_lss rfl rfl) ?_) | (refine g_build ?_; first | refine st_val rfl (bd60_0 rfl) ?_ | refine st_val rfl (bd60_0_1 rfl rfl) ?_) | (refine g_c_len ?_; refine st_val rfl (r_lenSlice rfl) ?_) | (refine g_indexAddr ?_; (refine st_val rfl (r_indexAddr (hr3.mono S.below) rfl rfl ?_ ?_) ?_; (first | omega | (simp <;> omega)); (first | omega | (simp <;> omega)))) | (refine g_load ?_; first | (refine st_val rfl (r_loadElem1 (hr3.mono S.below) rfl ?_ ?_ rfl) ?_; (first | omega | (simp <;> omega)); (first | omega | (simp <;> omega))) | refine st_val rfl (r_loadVarA (i := 1) S rfl rfl rfl rfl) ?_) | (refine g_callV ?_; (refine st_callV rfl (r_call2 rfl rfl rfl) (pickB_spec (by omega) (by omega) (by omega)) ?_; intro w hb; replace S := S.grow hb; clear hb)) | (refine g_alloc ?_; refine st_valE rfl (r_alloc S) ?_; rintro _ w ⟨b, rfl, -, S'⟩; replace S := S'; clear S') | (refine g_store ?_; first | (refine st_skipE rfl (r_storeVar (i := 0) S rfl rfl rfl rfl (of_decide_eq_true rfl) (of_decide_eq_true rfl)) ?_; intro w S'; replace S := S'; clear S') | (refine st_skipE rfl (r_storeVar (i := 1) S rfl rfl rfl rfl (of_decide_eq_true rfl) (of_decide_eq_true rfl)) ?_; intro w S'; replace S := S'; clear S')) | (refine wl_split rfl rfl (fun h => ?_) (fun h => ?_) <;> (fail_if_success (have hh : true = true := h)) <;> (fail_if_success (have hh : false = false := h)) <;> (try simp only [decide_eq_true_eq, decide_eq_false_iff_not, Bool.not_eq_true', Bool.not_eq_false', Int.not_lt, Int.not_le] at h) <;> (try (exfalso; omega)) <;> (try (exfalso; omega; done))) | (refine WP_cond rfl (fun h => ?_) (fun h => ?_) <;> (fail_if_success (have hh : true = true := h)) <;> (fail_if_success (have hh : false = false := h)) <;> (try simp only [decide_eq_true_eq, decide_eq_false_iff_not, Bool.not_eq_true', Bool.not_eq_false', Int.not_lt, Int.not_le] at h) <;> (try (exfalso; omega)) <;> (try (exfalso; omega; done))))
        all_goals
          refine st_valE rfl (r_litF (D := fGVerdict) [verdB l item (nth xs p)] (fun y => .agg y.enc.toArray) S (by rw [evb]; rfl) rfl (fun _ => rfl) rfl (Nat.succ_pos _) (by show 1 * 2 ≤ _; decide)) ?_
          rintro _ w ⟨bl, rfl, -, hcl, S'⟩; replace S := S'; clear S'
          refine st_valE rfl (r_append1 (D := fGVerdict) (i := 0) (b := bl) (x := verdB l item (nth xs p)) S rfl rfl rfl (fl_one hcl) rfl (by decide) (one_ve _) (by omega) (by omega)) ?_
          rintro vo' w ⟨-, S'⟩; replace S := S'; clear S' hcl
          repeat' (first | refine WP_region ?_ | refine wl_nil ?_ | refine then_normal ?_ | refine inB_normal ?_ | (refine g_move ?_; refine st_move rfl ?_) | (refine g_assign ?_; refine st_assign rfl ?_) | (refine g_b_add ?_; (refine st_val rfl (r_addN rfl rfl ?_ ?_) ?_; (first | omega | (simp <;> omega)); (first | omega | (simp <;> omega)))))
          refine ⟨⟨_, ?_, i + 1, _, vo', ⟨rfl, rfl, rfl, rfl, rfl, rfl, trivial⟩, by rw [verN_succ, ← hp]; exact S.keep [true], by omega, by omega, rfl⟩⟩
          omega
      · rw [if_neg (fun h => c1 h.1), if_neg c2] at evb
        repeat' (first | refine WP_seq ?_ | refine WP_region ?_ | refine wl_nil ?_ | refine then_normal ?_ | refine inB_normal ?_ | refine WP_skip ?_ | refine WP_block ?_ | (refine g_move ?_; refine st_move rfl ?_) | (refine g_assign ?_; refine st_assign rfl ?_) | (refine g_pick ?_; refine st_pickT rfl rfl ?_) | (refine g_b_eql ?_; refine st_val rfl (r_eql rfl rfl) ?_) | (refine g_b_lss ?_; refine st_val rfl (r_lss rfl rfl) ?_) | (refine g_build ?_; refine st_val rfl (bd60_0_1 rfl rfl) ?_) | (refine g_c_len ?_; refine st_val rfl (r_lenSlice rfl) ?_) | (refine g_indexAddr ?_; (refine st_val rfl (r_indexAddr (hr3.mono S.below) rfl rfl ?_ ?_) ?_; (first | omega | (simp <;> omega)); (first | omega | (simp <;> omega)))) | (refine g_load ?_; first | (refine st_val rfl (r_loadElem1 (hr3.mono S.below) rfl ?_ ?_ rfl) ?_; (first | omega | (simp <;> omega)); (first | omega | (simp <;> omega))) | refine st_val rfl (r_loadVarA (i := 1) S rfl rfl rfl rfl) ?_) | (refine g_callV ?_; (refine st_callV rfl (r_call2 rfl rfl rfl) (pickB_spec (by omega) (by omega) (by omega)) ?_; intro w hb; replace S := S.grow hb; clear hb)) | (refine g_alloc ?_; refine st_valE rfl (r_alloc S) ?_; rintro _ w ⟨b, rfl, -, S'⟩; replace S := S'; clear S') | (refine g_store ?_; first | (refine st_skipE rfl (r_storeVar (i := 0) S rfl rfl rfl rfl (of_decide_eq_true rfl) (of_decide_eq_true rfl)) ?_; intro w S'; replace S := S'; clear S') | (refine st_skipE rfl (r_storeVar (i := 1) S rfl rfl rfl rfl (of_decide_eq_true rfl) (of_decide_eq_true rfl)) ?_; intro w S'; replace S := S'; clear S')) | (refine wl_split rfl rfl (fun h => ?_) (fun h => ?_) <;> (fail_if_success (have hh : true = true := h)) <;> (fail_if_success (have hh : false = false := h)) <;> (try simp only [decide_eq_true_eq, decide_eq_false_iff_not, Bool.not_eq_true', Bool.not_eq_false', Int.not_lt, Int.not_le] at h) <;> (try (exfalso; omega)) <;> (try (exfalso; omega; done))) | (refine WP_cond rfl (fun h => ?_) (fun h => ?_) <;> (fail_if_success (have hh : true = true := h)) <;> (fail_if_success (have hh : false = false := h)) <;> (try simp only [decide_eq_true_eq, decide_eq_false_iff_not, Bool.not_eq_true', Bool.not_eq_false', Int.not_lt, Int.not_le] at h) <;> (try (exfalso; omega)) <;> (try (exfalso; omega; done))))
        all_goals
          refine st_valE rfl (r_litF (D := fGVerdict) [verdB l item (nth xs p)] (fun y => .agg y.enc.toArray) S (by rw [evb]; rfl) rfl (fun _ => rfl) rfl (Nat.succ_pos _) (by show 1 * 2 ≤ _; decide)) ?_
          rintro _ w ⟨bl, rfl, -, hcl, S'⟩; replace S := S'; clear S'
          refine st_valE rfl (r_append1 (D := fGVerdict) (i := 0) (b := bl) (x := verdB l item (nth xs p)) S rfl rfl rfl (fl_one hcl) rfl (by decide) (one_ve _) (by omega) (by omega)) ?_
          rintro vo' w ⟨-, S'⟩; replace S := S'; clear S' hcl
          repeat' (first | refine WP_region ?_ | refine wl_nil ?_ | refine then_normal ?_ | refine inB_normal ?_ | (refine g_move ?_; refine st_move rfl ?_) | (refine g_assign ?_; refine st_assign rfl ?_) | (refine g_b_add ?_; (refine st_val rfl (r_addN rfl rfl ?_ ?_) ?_; (first | omega | (simp <;> omega)); (first | omega | (simp <;> omega)))))
          refine ⟨⟨_, ?_, i + 1, _, vo', ⟨rfl, rfl, rfl, rfl, rfl, rfl, trivial⟩, by rw [verN_succ, ← hp]; exact S.keep [true], by omega, by omega, rfl⟩⟩
          omega
  · repeat' (first | refine WP_seq ?_ | refine WP_region ?_ | refine wl_nil ?_ | refine then_normal ?_ | refine then_exit ?_ | refine inB_here ?_ | refine WP_ret ?_ | refine WP_exit ?_ | refine WP_condF rfl ?_ | (refine g_guard ?_; refine st_off rfl ?_) | (refine g_move ?_; refine st_move rfl ?_) | (refine g_assign ?_; refine st_assign rfl ?_) | (refine g_pick ?_; first | refine st_pickT rfl rfl ?_ | refine st_pickF rfl rfl ?_) | (refine g_b_lss ?_; refine st_val rfl (r_lss rfl rfl) ?_) | (refine g_c_len ?_; refine st_val rfl (r_lenSlice rfl) ?_) | (refine wl_split rfl rfl (fun h => ?_) (fun h => ?_) <;> (fail_if_success (have hh : true = true := h)) <;> (fail_if_success (have hh : false = false := h)) <;> (try simp only [decide_eq_true_eq, decide_eq_false_iff_not, Bool.not_eq_true', Bool.not_eq_false', Int.not_lt, Int.not_le] at h) <;> (try (exfalso; omega)) <;> (try (exfalso; omega; done))) | (refine WP_cond rfl (fun h => ?_) (fun h => ?_) <;> (fail_if_success (have hh : true = true := h)) <;> (fail_if_success (have hh : false = false := h)) <;> (try simp only [decide_eq_true_eq, decide_eq_false_iff_not, Bool.not_eq_true', Bool.not_eq_false', Int.not_lt, Int.not_le] at h) <;> (try (exfalso; omega)) <;> (try (exfalso; omega; done))))
    all_goals
      obtain rfl : i = min xs.length 40 := by omega
      exact end2 rfl rfl rfl ⟨_, rfl, S.below, vo, by rw [efr]; rfl, by unfold verL; rw [← eit]; exact S.row (i := 0) rfl⟩
end Go.Proofs.YtijnbpnficcpmaaDoor
/- BillRoyalties. -/
namespace Go.Proofs.YtijnbpnficcpmaaDoor
open Go Go.Gx Go.RowKit
set_option linter.unusedVariables false
set_option linter.unusedSimpArgs false

def itB (l : List GContract) (n : Int) : Bool := l.any fun c => decide (c.Item = n)
def itN (l : List GContract) : Nat → List Int
  | 0 => []
  | n + 1 => itN l n ++ (if itB l n = true then [(n : Int)] else [])
theorem itN_mem {l : List GContract} {x : Int} : ∀ {n : Nat}, x ∈ itN l n → 0 ≤ x ∧ x < n
  | 0, h => by cases h
  | n + 1, h => by
    rw [itN, List.mem_append] at h
    rcases h with h | h
    · have := itN_mem h; omega
    · split at h
      · cases List.mem_singleton.1 h; omega
      · cases h
theorem itN_pw {l : List GContract} : ∀ n : Nat, (itN l n).Pairwise (· < ·)
  | 0 => List.Pairwise.nil
  | n + 1 => by
    rw [itN, List.pairwise_append]
    refine ⟨itN_pw n, by split <;> simp, fun a ha b hb => ?_⟩
    have := itN_mem ha
    split at hb
    · cases List.mem_singleton.1 hb; omega
    · cases hb
theorem cnt_lt {l : List GContract} {n : Int} : l.countP (fun c => decide (c.Item < n + 1)) = l.countP (fun c => decide (c.Item < n)) + l.countP (fun c => decide (c.Item = n)) := by
  induction l with
  | nil => rfl
  | cons c l ih =>
    simp only [List.countP_cons, ih, decide_eq_true_eq]
    (repeat' split) <;> omega
theorem itN_cnt {l : List GContract} : ∀ n : Nat, (itN l n).length ≤ l.countP (fun c => decide (c.Item < (n : Int)))
  | 0 => by rw [itN]; simp
  | n + 1 => by
    have ih := itN_cnt (l := l) n
    rw [itN, List.length_append, Int.natCast_succ, cnt_lt]
    split
    · rename_i h
      unfold itB at h
      obtain ⟨c, hc, hd⟩ := List.any_eq_true.1 h
      have := (List.countP_pos_iff (p := fun c : GContract => decide (c.Item = (n : Int)))).2 ⟨c, hc, hd⟩
      simp only [List.length_singleton]
      omega
    · simp only [List.length_nil]; omega
theorem itN_len {l : List GContract} {n : Nat} : (itN l n).length ≤ l.length := by
  have h1 := itN_cnt (l := l) n
  have h2 := List.countP_le_length (p := fun c : GContract => decide (c.Item < (n : Int))) (l := l)
  omega
theorem itN_ok {l : List GContract} : okIts (itN l 200) = true := by
  refine okIts_of fun j h0 hj => ?_
  have hm := itN_mem (nth_mem h0 hj)
  unfold okIt
  rw [decide_eq_true_iff]
  refine ⟨?_, by omega⟩
  unfold prevN
  split
  · omega
  · have hp := List.pairwise_iff_getElem.1 (itN_pw (l := l) 200) (j - 1).toNat j.toNat (by omega) (by omega) (by omega)
    have e1 := nth_get (l := itN l 200) (i := j - 1) (by omega) (by omega)
    have e2 := nth_get (l := itN l 200) (i := j) h0 hj
    rw [List.getElem?_eq_getElem (by omega)] at e1 e2
    rw [← Option.some.inj e1, ← Option.some.inj e2]
    exact hp
/-- What is said of the weights and the shares. -/
structure RoyOk (t : Int) (w a : List Int) : Prop where
  len : a.length = w.length
  sum : sumW a = if sumW w = 0 then 0 else t
  each : ∀ j : Int, 0 ≤ j → j < w.length → 0 ≤ nth a j ∧ nth a j ≤ 1000000 ∧ (nth w j = 0 → nth a j = 0)
theorem wts_rng {l : List Int} {vs : List GVerdict} (hv : validV vs = true) {j : Int} (h0 : 0 ≤ j) (hj : j < (wts l vs).length) : 0 ≤ nth (wts l vs) j ∧ nth (wts l vs) j ≤ 200 := by
  rw [wts_len] at hj
  rw [wts_nth h0 hj]
  have h1 := @cntV_le vs (nth l j)
  have h2 := validV_len hv
  omega
theorem roy_ok {t : Int} {l : List Int} {vs : List GVerdict} (ht : 0 ≤ t ∧ t < 100000) (hl : 1 ≤ l.length ∧ l.length ≤ 16) (hv : validV vs = true) (hi : okIts l = true) : ∃ a, royI t l vs = (a, 0) ∧ RoyOk t (wts l vs) a := by
  have hok : okRo t l vs = true := by
    unfold okRo
    rw [hv, hi, show inR t 0 1000000000000 = true from decide_eq_true (by omega), show inR (l.length : Int) 1 16 = true from decide_eq_true (by omega)]; rfl
  have hw := fun (j : Int) h0 hj => wts_rng (l := l) hv (j := j) h0 hj
  have hwl : (wts l vs).length = l.length := wts_len
  unfold royI
  rw [hok, if_pos rfl]
  by_cases hz : sumW (wts l vs) = 0
  · rw [if_pos hz]
    exact ⟨_, rfl, rfl, by rw [if_pos hz]; exact hz, fun j h0 hj => ⟨(hw j h0 hj).1, by have := hw j h0 hj; omega, id⟩⟩
  · rw [if_neg hz]
    have hws : okWs (wts l vs) = true := okWs_of (by omega) fun j h0 hj => decide_eq_true (by have := hw j h0 hj; omega)
    have hsn := @sumN_nonneg (fun k => nth (wts l vs) (k : Int)) (wts l vs).length fun k hk => (hw k (by omega) (by omega)).1
    have e : shI t (wts l vs) = (shW t (wts l vs), 0) := by
      unfold shI okSh
      rw [hws, decide_eq_true hz, show inR t 0 1000000000000 = true from decide_eq_true (by omega)]; rfl
    have hO := sh_ok (t := t) (w := wts l vs) (s := sumW (wts l vs)) ht.1 (fun j h0 hj => (hw j h0 hj).1) (by show 0 < sumW _; unfold sumW at hz ⊢; omega) rfl
    have hnn : ∀ j : Int, 0 ≤ j → j < (wts l vs).length → 0 ≤ nth (shW t (wts l vs)) j := fun j h0 hj => by
      have h1 := quoW_le hws (by omega : 0 ≤ t ∧ t ≤ 1000000000000) rfl (by show 0 < sumW _; unfold sumW at hz ⊢; omega) (k := j.toNat) (by omega)
      rw [show ((j.toNat : Nat) : Int) = j by omega] at h1
      rcases hO.exact j h0 hj with h | h <;> omega
    refine ⟨_, e, hO.len, by rw [if_neg hz]; exact hO.sum, fun j h0 hj => ⟨hnn j h0 hj, ?_, hO.zero j h0 hj⟩⟩
    have h2 := @sumN_ge (fun k => nth (shW t (wts l vs)) (k : Int)) j.toNat (shW t (wts l vs)).length (by have := hO.len; omega) fun k hk => hnn k (by omega) (by have := hO.len; omega)
    have h3 : sumN (fun k => nth (shW t (wts l vs)) (k : Int)) (shW t (wts l vs)).length = t := hO.sum
    simp only [show ((j.toNat : Nat) : Int) = j by omega] at h2
    omega
def cntOf (vs M : List GVerdict) : Prop := ∀ item, cntV M item = cntV vs item
theorem roy_same {t : Int} {l : List Int} {vs M : List GVerdict} (hv : validV vs = true) (hM : validV M = true) (h : cntOf vs M) : royI t l M = royI t l vs := by
  have e : wts l M = wts l vs := by unfold wts; exact congrArg (fun f => tab f l.length) (funext fun k => h _)
  unfold royI okRo
  rw [hv, hM, e]
theorem drop_nthV {L : List GVerdict} {i : Int} (h0 : 0 ≤ i) (hi : i < L.length) : L.drop i.toNat = nth L i :: L.drop (i + 1).toNat := by
  have := nth_get (l := L) (i := i) h0 hi
  rw [List.drop_eq_getElem_cons (by omega), show (i + 1).toNat = i.toNat + 1 by omega]
  congr 1
  rw [List.getElem?_eq_getElem (by omega)] at this
  exact Option.some.inj this
/-- Verdicts that say that something was heard, of those behind a place. -/
structure BackOf (vs M : List GVerdict) (i : Int) : Prop where
  len : (M.length : Int) ≤ vs.length - i
  mem : ∀ x ∈ M, x ∈ vs
  cnt : ∀ item, cntV M item = cntV (vs.drop i.toNat) item
theorem BackOf.step {vs M : List GVerdict} {i : Int} (h : BackOf vs M (i + 1)) (h0 : 0 ≤ i) (hi : i < vs.length) (hk : (nth vs i).Kind = 1) : BackOf vs (M ++ [nth vs i]) i := by
  refine ⟨by have := h.len; simp; omega, fun x hx => ?_, fun item => ?_⟩
  · rcases List.mem_append.1 hx with h1 | h1
    · exact h.mem x h1
    · cases List.mem_singleton.1 h1; exact nth_mem h0 hi
  · have := h.cnt item
    rw [drop_nthV h0 hi]
    unfold cntV at this ⊢
    simp only [List.countP_append, List.countP_cons, List.countP_nil]
    omega
theorem BackOf.skip {vs M : List GVerdict} {i : Int} (h : BackOf vs M (i + 1)) (h0 : 0 ≤ i) (hi : i < vs.length) (hk : (nth vs i).Kind ≠ 1) : BackOf vs M i := by
  refine ⟨by have := h.len; omega, h.mem, fun item => ?_⟩
  have := h.cnt item
  rw [drop_nthV h0 hi]
  unfold cntV at this ⊢
  rw [List.countP_cons, show hitV item (nth vs i) = false from decide_eq_false (fun e => hk e.1)]
  simpa using this
theorem cntV_pos {vs : List GVerdict} {item : Int} : (∃ t, 0 ≤ t ∧ t < (vs.length : Int) ∧ HitT vs 0 item t) ↔ 0 < cntV vs item := by
  unfold cntV
  have hc := List.countP_pos_iff (p := hitV item) (l := vs)
  constructor
  · rintro ⟨t, h0, h1, _, _, h⟩
    rw [Int.sub_zero] at h
    have := hc.2 ⟨nth vs t, nth_mem h0 h1, by rw [h]; exact decide_eq_true ⟨rfl, rfl⟩⟩
    omega
  · intro h
    obtain ⟨x, hx, hd⟩ := hc.1 (by omega)
    have hd := of_decide_eq_true hd
    obtain ⟨j, hj⟩ := List.getElem?_of_mem hx
    have hlt := (List.getElem?_eq_some_iff.1 hj).1
    have h2 := nth_get (l := vs) (i := (j : Int)) (by omega) (by omega)
    rw [Int.toNat_natCast, hj] at h2
    refine ⟨j, by omega, by omega, by omega, by omega, ?_⟩
    rw [Int.sub_zero, ← Option.some.inj h2]
    obtain ⟨k, i⟩ := x
    obtain ⟨rfl, rfl⟩ := hd
    rfl
set_option maxRecDepth 20000 in
set_option maxHeartbeats 4000000 in
theorem lawRoyalties_spec {vx vy vv : Value} {xs : List GArr8Int} {ys : List GArr2Int} {which total : Int} {zs : List Int} {w0 : World} (hG : TblAt w0) (hr1 : Rd fGArr8Int.ty w0 vx xs) (hx : ∀ x ∈ xs, okA8 x) (hxl : xs.length ≤ maxLen) (hr2 : Rd fGArr2Int.ty w0 vy ys) (hy : ∀ y ∈ ys, okA2 y) (hyl : ys.length ≤ maxLen) (hw : inI which) (hr3 : Rd (fInt .i64).ty w0 vv zs) (hz : ∀ z ∈ zs, inI z) (hzl : zs.length ≤ maxLen) (hto : inI total) :
    CallsV Tryd.prog 6 #[vx, vy, .int .i64 which, vv, .int .i64 total] w0 (.bool true) := by
  have S := St.start w0
  refine CallsV.mk ?_
  refine calls_enter Tryd.func6 rfl (by intro _ h; first | exact nomatch h.1 | (obtain ⟨_, h, _⟩ := h; exact nomatch h)) Tryd.ntmps6 rfl ?_
  repeat' (first | refine WP_seq ?_ | refine WP_region ?_ | refine wl_nil ?_ | refine then_normal ?_ | refine WP_skip ?_ | refine WP_condF rfl ?_ | (refine g_move ?_; refine st_move rfl ?_) | (refine g_assign ?_; refine st_assign rfl ?_) | (refine g_un ?_; refine st_val rfl (r_not rfl) ?_) | (refine g_callV ?_; (refine st_callV rfl (r_call0 rfl) (sane_spec (hG.mono S.below)) ?_; intro w hb; replace S := S.grow hb; clear hb)))
  refine st_callR rfl (r_call1 rfl rfl) (made_run (hr1.mono S.below) hx hxl) ?_; rintro vL w hb hrow; replace S := S.new hb hrow; clear hb hrow
  obtain ⟨l, hl⟩ : ∃ l, madeL xs = l := ⟨_, rfl⟩
  have hvl : validC l = true := by rw [← hl]; exact madeL_ok xs
  have hll : l.length ≤ 8 := by rw [← hl]; exact madeL_len xs
  rw [hl] at S
  obtain ⟨AL, cL, hz⟩ := (S.rdRow (D := fGContract) (i := 0) rfl).len; subst hz
  repeat' (first | refine WP_seq ?_ | refine WP_region ?_ | refine wl_nil ?_ | refine then_normal ?_ | (refine g_move ?_; refine st_move rfl ?_) | (refine g_assign ?_; refine st_assign rfl ?_))
  refine st_callR rfl (r_call2 rfl rfl rfl) (spots_run (S.rdRow (D := fGContract) (i := 0) rfl) (hr2.mono S.below) hy (by omega) hyl) ?_; rintro vP w hb hrow; replace S := S.new hb hrow; clear hb hrow
  obtain ⟨sp, hsp⟩ : ∃ sp, spotsL l ys = sp := ⟨_, rfl⟩
  have hvp : validP sp = true := by rw [← hsp]; exact spotsL_ok hvl ys
  have hpl : sp.length ≤ 24 := by rw [← hsp]; exact spotsL_len l ys
  rw [hsp] at S
  obtain ⟨AP, cP, hz⟩ := (S.rdRow (D := fGSpot) (i := 1) rfl).len; subst hz
  have hok : okI l sp = true := by unfold okI; rw [hvl, hvp]; rfl
  replace S : St w0 w [rowOb fGContract 70 (.slice AL l.length cL) l, rowOb fGSpot 63 (.slice AP sp.length cP) sp] := S

  repeat' ((refine g_move ?_; refine st_move rfl ?_))
  refine st_callR rfl (r_call4 rfl rfl rfl rfl rfl) (verd_run (S.rdRow (D := fGContract) (i := 0) rfl) (S.rdRow (D := fGSpot) (i := 1) rfl) hw (hr3.mono S.below) hz (by omega) (by omega) hzl hok) ?_
  rintro _ w hb ⟨vV, rfl, hrow⟩; replace S := S.new hb hrow; clear hb hrow
  have hvv : validV (verL l sp which zs) = true := verL_ok hvl
  obtain ⟨vs, hvs⟩ : ∃ vs, verL l sp which zs = vs := ⟨_, rfl⟩
  rw [hvs] at S hvv
  have hvl40 := validV_len hvv
  obtain ⟨AV, cV, hz2⟩ := (S.rdRow (D := fGVerdict) (i := 2) rfl).len; subst hz2
  obtain ⟨t, hte⟩ : ∃ t, pickI total 100000 = t := ⟨_, rfl⟩
  have htr := pickI_range (c := total) (n := 100000) (by omega)
  rw [hte] at htr
  repeat' (first | refine WP_seq ?_ | refine WP_region ?_ | refine wl_nil ?_ | refine then_normal ?_ | refine WP_block ?_ | (refine g_move ?_; refine st_move rfl ?_) | (refine g_assign ?_; refine st_assign rfl ?_) | (refine g_extract ?_; refine st_val rfl (r_extract rfl rfl) ?_) | (refine g_callV ?_; (refine st_callV rfl (r_call2 rfl rfl rfl) (pick_is hte hto.1 hto.2 (by omega)) ?_; intro w hb; replace S := S.grow hb; clear hb)))
  replace S := S.nilRow (fInt .i64) 3
  refine WP_loop (fun m σ w1 => ∃ (n : Nat) (p : Int) (vo : Value), Has σ [(12, .slice AL l.length cL), (13, .slice AV vs.length cV), (15, .int .i64 t), (16, vo), (17, .int .i64 p)] ∧ St w0 w1 [rowOb fGContract 70 (.slice AL l.length cL) l, rowOb fGSpot 63 (.slice AP sp.length cP) sp, rowOb fGVerdict 60 (.slice AV vs.length cV) vs, rowOb (fInt .i64) 3 vo (itN l n)] ∧ p = n ∧ n ≤ 200 ∧ m = 200 - n) 200 ⟨0, _, _, ⟨rfl, rfl, rfl, rfl, rfl, trivial⟩, S, rfl, by omega, rfl⟩ ?_
  clear S
  rintro m σ w1 ⟨n, p, vo, hs, S, hp, hn, hm⟩
  refine WP_has hs ?_
  have hnl := itN_len (l := l) (n := n)
  by_cases hn2 : n < 200
  · repeat' (first | refine WP_seq ?_ | refine WP_region ?_ | refine wl_nil ?_ | refine then_normal ?_ | refine WP_skip ?_ | refine WP_block ?_ | (refine g_move ?_; refine st_move rfl ?_) | (refine g_assign ?_; refine st_assign rfl ?_) | (refine g_b_lss ?_; refine st_val rfl (r_lss rfl rfl) ?_) | (refine WP_cond rfl (fun h => ?_) (fun h => ?_) <;> (fail_if_success (have hh : true = true := h)) <;> (fail_if_success (have hh : false = false := h)) <;> (try simp only [decide_eq_true_eq, decide_eq_false_iff_not, Bool.not_eq_true', Bool.not_eq_false', Int.not_lt, Int.not_le] at h) <;> (try (exfalso; omega)) <;> (try (exfalso; omega; done))))
    refine WP_loop (fun m σ w1 => ∃ (i : Int) (bb : Bool), Has σ [(12, .slice AL l.length cL), (13, .slice AV vs.length cV), (15, .int .i64 t), (16, vo), (17, .int .i64 p), (18, .bool bb), (19, .int .i64 i)] ∧ St w0 w1 [rowOb fGContract 70 (.slice AL l.length cL) l, rowOb fGSpot 63 (.slice AP sp.length cP) sp, rowOb fGVerdict 60 (.slice AV vs.length cV) vs, rowOb (fInt .i64) 3 vo (itN l n)] ∧ 0 ≤ i ∧ i ≤ l.length ∧ bb = itB (l.take i.toNat) p ∧ m = l.length - i.toNat) l.length ⟨0, false, ⟨rfl, rfl, rfl, rfl, rfl, rfl, rfl, trivial⟩, S, by omega, by omega, rfl, by omega⟩ ?_
    clear S hs
    rintro m' σ w1 ⟨i, bb, hs, S, hi0, hi1, hbb, hm'⟩
    refine WP_has hs ?_
    by_cases hi : i < l.length
    · have hst : itB (l.take (i + 1).toNat) p = (itB (l.take i.toNat) p || decide ((nth l i).Item = p)) := by
        unfold itB
        rw [show (i + 1).toNat = i.toNat + 1 by omega, List.take_add_one, nth_get hi0 hi, Option.toList_some, List.any_append]; simp
      rw [← hbb] at hst
      cases bb
      · repeat' (first | refine WP_seq ?_ | refine WP_region ?_ | refine wl_nil ?_ | refine then_normal ?_ | refine inB_normal ?_ | refine WP_skip ?_ | refine WP_block ?_ | (refine g_move ?_; refine st_move rfl ?_) | (refine g_assign ?_; refine st_assign rfl ?_) | (refine g_pick ?_; refine st_pickF rfl rfl ?_) | (refine g_b_add ?_; (refine st_val rfl (r_addN rfl rfl ?_ ?_) ?_; (first | omega | (simp <;> omega)); (first | omega | (simp <;> omega)))) | (refine g_b_eql ?_; refine st_val rfl (r_eql rfl rfl) ?_) | (refine g_b_lss ?_; refine st_val rfl (r_lss rfl rfl) ?_) | (refine g_c_len ?_; refine st_val rfl (r_lenSlice rfl) ?_) | (refine g_fieldAddr ?_; refine st_val rfl (r_fieldAddr rfl) ?_) | (refine g_indexAddr ?_; (refine st_val rfl (r_indexAddr (S.rdRow (D := fGContract) (i := 0) rfl) rfl rfl ?_ ?_) ?_; (first | omega | (simp <;> omega)); (first | omega | (simp <;> omega)))) | (refine g_load ?_; (refine st_val rfl (r_loadElemF (S.rdRow (D := fGContract) (i := 0) rfl) rfl ?_ ?_ rfl) ?_; (first | omega | (simp <;> omega)); (first | omega | (simp <;> omega)))) | (refine WP_cond rfl (fun h => ?_) (fun h => ?_) <;> (fail_if_success (have hh : true = true := h)) <;> (fail_if_success (have hh : false = false := h)) <;> (try simp only [decide_eq_true_eq, decide_eq_false_iff_not, Bool.not_eq_true', Bool.not_eq_false', Int.not_lt, Int.not_le] at h) <;> (try (exfalso; omega)) <;> (try (exfalso; omega; done))))
        refine ⟨⟨_, ?_, i + 1, decide ((nth l i).Item = p), ⟨rfl, rfl, rfl, rfl, rfl, rfl, rfl, trivial⟩, S, by omega, by omega, by rw [hst]; rfl, rfl⟩⟩
        omega
      · repeat' (first | refine WP_seq ?_ | refine WP_region ?_ | refine wl_nil ?_ | refine then_normal ?_ | refine inB_normal ?_ | refine WP_skip ?_ | refine WP_block ?_ | (refine g_guard ?_; refine st_off rfl ?_) | (refine g_move ?_; refine st_move rfl ?_) | (refine g_assign ?_; refine st_assign rfl ?_) | (refine g_pick ?_; refine st_pickT rfl rfl ?_) | (refine g_b_add ?_; (refine st_val rfl (r_addN rfl rfl ?_ ?_) ?_; (first | omega | (simp <;> omega)); (first | omega | (simp <;> omega)))) | (refine g_b_lss ?_; refine st_val rfl (r_lss rfl rfl) ?_) | (refine g_c_len ?_; refine st_val rfl (r_lenSlice rfl) ?_) | (refine WP_cond rfl (fun h => ?_) (fun h => ?_) <;> (fail_if_success (have hh : true = true := h)) <;> (fail_if_success (have hh : false = false := h)) <;> (try simp only [decide_eq_true_eq, decide_eq_false_iff_not, Bool.not_eq_true', Bool.not_eq_false', Int.not_lt, Int.not_le] at h) <;> (try (exfalso; omega)) <;> (try (exfalso; omega; done))))
        refine ⟨⟨_, ?_, i + 1, true, ⟨rfl, rfl, rfl, rfl, rfl, rfl, rfl, trivial⟩, S, by omega, by omega, by rw [hst]; rfl, rfl⟩⟩
        omega
    · have eT : l.take i.toNat = l := List.take_of_length_le (by omega)
      rw [eT, hp] at hbb
      cases hB : itB l (n : Int) with
      | false =>
        rw [hB] at hbb
        subst hbb
        repeat' (first | refine WP_seq ?_ | refine WP_region ?_ | refine wl_nil ?_ | refine then_normal ?_ | refine inB_normal ?_ | refine then_exit ?_ | refine inB_here ?_ | refine WP_skip ?_ | refine WP_exit ?_ | refine WP_condF rfl ?_ | (refine g_move ?_; refine st_move rfl ?_) | (refine g_assign ?_; refine st_assign rfl ?_) | (refine g_b_add ?_; (refine st_val rfl (r_addN rfl rfl ?_ ?_) ?_; (first | omega | (simp <;> omega)); (first | omega | (simp <;> omega)))) | (refine g_b_lss ?_; refine st_val rfl (r_lss rfl rfl) ?_) | (refine g_c_len ?_; refine st_val rfl (r_lenSlice rfl) ?_) | (refine WP_cond rfl (fun h => ?_) (fun h => ?_) <;> (fail_if_success (have hh : true = true := h)) <;> (fail_if_success (have hh : false = false := h)) <;> (try simp only [decide_eq_true_eq, decide_eq_false_iff_not, Bool.not_eq_true', Bool.not_eq_false', Int.not_lt, Int.not_le] at h) <;> (try (exfalso; omega)) <;> (try (exfalso; omega; done))))
        refine ⟨⟨_, ?_, n + 1, _, vo, ⟨rfl, rfl, rfl, rfl, rfl, trivial⟩, ?_, by omega, by omega, rfl⟩⟩
        · omega
        · rw [itN, hB, if_neg (by simp), List.append_nil]; exact S
      | true =>
        rw [hB] at hbb
        subst hbb
        repeat' (first | refine WP_seq ?_ | refine WP_region ?_ | refine wl_nil ?_ | refine then_normal ?_ | refine then_exit ?_ | refine inB_here ?_ | refine WP_exit ?_ | refine WP_condT rfl ?_ | (refine g_move ?_; refine st_move rfl ?_) | (refine g_b_lss ?_; refine st_val rfl (r_lss rfl rfl) ?_) | (refine g_c_len ?_; refine st_val rfl (r_lenSlice rfl) ?_) | (refine WP_cond rfl (fun h => ?_) (fun h => ?_) <;> (fail_if_success (have hh : true = true := h)) <;> (fail_if_success (have hh : false = false := h)) <;> (try simp only [decide_eq_true_eq, decide_eq_false_iff_not, Bool.not_eq_true', Bool.not_eq_false', Int.not_lt, Int.not_le] at h) <;> (try (exfalso; omega)) <;> (try (exfalso; omega; done))))
        refine st_valE rfl (r_litF (D := fInt .i64) [p] (Value.int .i64) S rfl rfl (fun _ => rfl) rfl (by decide) (by decide)) ?_
        rintro _ w ⟨bl, rfl, -, hcl, S'⟩; replace S := S'; clear S'
        refine st_valE rfl (r_append1 (D := fInt .i64) (i := 3) (b := bl) (x := p) S rfl rfl rfl (fl_one hcl) rfl (by decide) (by intro u hu; cases List.mem_singleton.1 hu; rfl) (by omega) (by omega)) ?_
        rintro vo' w ⟨-, S'⟩; replace S := S'; clear S' hcl
        repeat' (first | refine WP_region ?_ | refine wl_nil ?_ | refine then_normal ?_ | refine inB_normal ?_ | (refine g_move ?_; refine st_move rfl ?_) | (refine g_assign ?_; refine st_assign rfl ?_) | (refine g_b_add ?_; (refine st_val rfl (r_addN rfl rfl ?_ ?_) ?_; (first | omega | (simp <;> omega)); (first | omega | (simp <;> omega)))))
        refine ⟨⟨_, ?_, n + 1, _, vo', ⟨rfl, rfl, rfl, rfl, rfl, trivial⟩, ?_, by omega, by omega, rfl⟩⟩
        · omega
        · rw [itN, hB, if_pos rfl, ← hp]; exact S.keep [true, true, true, true]
  have en : n = 200 := by omega
  subst en
  have hio := itN_ok (l := l)
  obtain ⟨it, hit⟩ : ∃ it, itN l 200 = it := ⟨_, rfl⟩
  rw [hit] at S hnl hio
  obtain ⟨AI, cI, hz2⟩ := (S.rdRow (D := fInt .i64) (i := 3) rfl).len; subst hz2
  by_cases hi0 : it.length = 0
  · have e0 : it = [] := List.eq_nil_of_length_eq_zero hi0
    have e : royI t it vs = ([], 390) := royI_no (okRo_l (by rw [hi0]; rfl))
    repeat' (first | refine WP_seq ?_ | refine WP_region ?_ | refine wl_nil ?_ | refine then_normal ?_ | refine then_exit ?_ | refine inB_here ?_ | refine WP_exit ?_ | (refine g_move ?_; refine st_move rfl ?_) | (refine g_b_eql ?_; refine st_val rfl (r_eql rfl rfl) ?_) | (refine g_b_lss ?_; refine st_val rfl (r_lss rfl rfl) ?_) | (refine g_c_len ?_; refine st_val rfl (r_lenSlice rfl) ?_) | (refine WP_cond rfl (fun h => ?_) (fun h => ?_) <;> (fail_if_success (have hh : true = true := h)) <;> (fail_if_success (have hh : false = false := h)) <;> (try simp only [decide_eq_true_eq, decide_eq_false_iff_not, Bool.not_eq_true', Bool.not_eq_false', Int.not_lt, Int.not_le] at h) <;> (try (exfalso; omega)) <;> (try (exfalso; omega; done))))
    refine st_callR rfl (r_call3 rfl rfl rfl rfl) (roy_is e (S.rdRow (D := fInt .i64) (i := 3) rfl) (S.rdRow (D := fGVerdict) (i := 2) rfl) (by omega) (by omega)) ?_
    rintro _ w hb ⟨vr, rfl, hrow⟩; replace S := S.new hb hrow; clear hb hrow
    repeat' (first | refine WP_seq ?_ | refine WP_region ?_ | refine wl_nil ?_ | refine then_normal ?_ | refine then_ret ?_ | refine WP_ret ?_ | (refine g_move ?_; refine st_move rfl ?_) | (refine g_assign ?_; refine st_assign rfl ?_) | (refine g_b_eql ?_; refine st_val rfl (r_eql rfl rfl) ?_) | (refine g_extract ?_; refine st_val rfl (r_extract rfl rfl) ?_))
    exact end1 rfl rfl ⟨rfl, S.below⟩
  obtain ⟨a, ea, hA⟩ := roy_ok (t := t) (l := it) htr (by omega) hvv hio
  repeat' (first | refine WP_seq ?_ | refine WP_region ?_ | refine wl_nil ?_ | refine then_normal ?_ | refine then_exit ?_ | refine inB_here ?_ | refine WP_skip ?_ | refine WP_exit ?_ | refine WP_block ?_ | (refine g_move ?_; refine st_move rfl ?_) | (refine g_assign ?_; refine st_assign rfl ?_) | (refine g_b_sub ?_; (refine st_val rfl (r_subN rfl rfl ?_ ?_) ?_; (first | omega | (simp <;> omega)); (first | omega | (simp <;> omega)))) | (refine g_b_eql ?_; refine st_val rfl (r_eql rfl rfl) ?_) | (refine g_b_lss ?_; refine st_val rfl (r_lss rfl rfl) ?_) | (refine g_c_len ?_; refine st_val rfl (r_lenSlice rfl) ?_) | (refine WP_cond rfl (fun h => ?_) (fun h => ?_) <;> (fail_if_success (have hh : true = true := h)) <;> (fail_if_success (have hh : false = false := h)) <;> (try simp only [decide_eq_true_eq, decide_eq_false_iff_not, Bool.not_eq_true', Bool.not_eq_false', Int.not_lt, Int.not_le] at h) <;> (try (exfalso; omega)) <;> (try (exfalso; omega; done))))
  replace S := S.nilRow fGVerdict 60
  refine WP_loop (fun m σ w1 => ∃ (i : Int) (vM : Value) (M : List GVerdict), Has σ [(13, .slice AV vs.length cV), (15, .int .i64 t), (16, .slice AI it.length cI), (22, vM), (23, .int .i64 i)] ∧ St w0 w1 [rowOb fGContract 70 (.slice AL l.length cL) l, rowOb fGSpot 63 (.slice AP sp.length cP) sp, rowOb fGVerdict 60 (.slice AV vs.length cV) vs, rowOb (fInt .i64) 3 (.slice AI it.length cI) it, rowOb fGVerdict 60 vM M] ∧ -1 ≤ i ∧ i < vs.length ∧ BackOf vs M (i + 1) ∧ m = (i + 1).toNat) vs.length ⟨_, _, [], ⟨rfl, rfl, rfl, rfl, rfl, trivial⟩, S, by omega, by omega, ⟨by simp, fun x hx => (by cases hx), fun item => by rw [List.drop_eq_nil_of_le (by omega)]⟩, by omega⟩ ?_
  clear S hs
  rintro m σ w1 ⟨i, vM, M, hs, S, hi1, hi2, hM, hm⟩
  refine WP_has hs ?_
  have hMl := hM.len
  by_cases hi : 0 ≤ i
  · by_cases hk : (nth vs i).Kind = 1
    · repeat' (first | refine WP_seq ?_ | refine WP_region ?_ | refine wl_nil ?_ | refine then_normal ?_ | refine WP_skip ?_ | refine WP_block ?_ | (refine g_move ?_; refine st_move rfl ?_) | (refine g_b_eql ?_; refine st_val rfl (r_eql rfl rfl) ?_) | (refine g_b_geq ?_; refine st_val rfl (r_geq rfl rfl) ?_) | (refine g_fieldAddr ?_; refine st_val rfl (r_fieldAddr rfl) ?_) | (refine g_indexAddr ?_; (refine st_val rfl (r_indexAddr (S.rdRow (D := fGVerdict) (i := 2) rfl) rfl rfl ?_ ?_) ?_; (first | omega | (simp <;> omega)); (first | omega | (simp <;> omega)))) | (refine g_load ?_; first | (refine st_val rfl (r_loadElem (S.rdRow (D := fGVerdict) (i := 2) rfl) rfl ?_ ?_) ?_; (first | omega | (simp <;> omega)); (first | omega | (simp <;> omega))) | (refine st_val rfl (r_loadElem1 (S.rdRow (D := fGVerdict) (i := 2) rfl) rfl ?_ ?_ rfl) ?_; (first | omega | (simp <;> omega)); (first | omega | (simp <;> omega)))) | (refine WP_cond rfl (fun h => ?_) (fun h => ?_) <;> (fail_if_success (have hh : true = true := h)) <;> (fail_if_success (have hh : false = false := h)) <;> (try simp only [decide_eq_true_eq, decide_eq_false_iff_not, Bool.not_eq_true', Bool.not_eq_false', Int.not_lt, Int.not_le] at h) <;> (try (exfalso; omega)) <;> (try (exfalso; omega; done))))
      refine st_valE rfl (r_litF (D := fGVerdict) [nth vs i] (fun y => .agg y.enc.toArray) S rfl rfl (fun _ => rfl) rfl (Nat.succ_pos _) (by show 1 * 2 ≤ _; decide)) ?_
      rintro _ w ⟨bl, rfl, -, hcl, S'⟩; replace S := S'; clear S'
      refine st_valE rfl (r_append1 (D := fGVerdict) (i := 4) (b := bl) (x := nth vs i) S rfl rfl rfl (fl_one hcl) rfl (by decide) (one_ve _) (by omega) (by omega)) ?_
      rintro vo' w ⟨-, S'⟩; replace S := S'; clear S' hcl
      repeat' (first | refine WP_region ?_ | refine wl_nil ?_ | refine then_normal ?_ | refine inB_normal ?_ | (refine g_move ?_; refine st_move rfl ?_) | (refine g_assign ?_; refine st_assign rfl ?_) | (refine g_b_sub ?_; (refine st_val rfl (r_subN rfl rfl ?_ ?_) ?_; (first | omega | (simp <;> omega)); (first | omega | (simp <;> omega)))))
      refine ⟨⟨_, ?_, i - 1, vo', M ++ [nth vs i], ⟨rfl, rfl, rfl, rfl, rfl, trivial⟩, S.keep [true, true, true, true, true], by omega, by omega, by rw [show i - 1 + 1 = i by omega]; exact hM.step hi hi2 hk, rfl⟩⟩
      omega
    · repeat' (first | refine WP_seq ?_ | refine WP_region ?_ | refine wl_nil ?_ | refine then_normal ?_ | refine inB_normal ?_ | refine WP_skip ?_ | refine WP_block ?_ | (refine g_move ?_; refine st_move rfl ?_) | (refine g_assign ?_; refine st_assign rfl ?_) | (refine g_b_sub ?_; (refine st_val rfl (r_subN rfl rfl ?_ ?_) ?_; (first | omega | (simp <;> omega)); (first | omega | (simp <;> omega)))) | (refine g_b_eql ?_; refine st_val rfl (r_eql rfl rfl) ?_) | (refine g_b_geq ?_; refine st_val rfl (r_geq rfl rfl) ?_) | (refine g_fieldAddr ?_; refine st_val rfl (r_fieldAddr rfl) ?_) | (refine g_indexAddr ?_; (refine st_val rfl (r_indexAddr (S.rdRow (D := fGVerdict) (i := 2) rfl) rfl rfl ?_ ?_) ?_; (first | omega | (simp <;> omega)); (first | omega | (simp <;> omega)))) | (refine g_load ?_; (refine st_val rfl (r_loadElem1 (S.rdRow (D := fGVerdict) (i := 2) rfl) rfl ?_ ?_ rfl) ?_; (first | omega | (simp <;> omega)); (first | omega | (simp <;> omega)))) | (refine WP_cond rfl (fun h => ?_) (fun h => ?_) <;> (fail_if_success (have hh : true = true := h)) <;> (fail_if_success (have hh : false = false := h)) <;> (try simp only [decide_eq_true_eq, decide_eq_false_iff_not, Bool.not_eq_true', Bool.not_eq_false', Int.not_lt, Int.not_le] at h) <;> (try (exfalso; omega)) <;> (try (exfalso; omega; done))))
      refine ⟨⟨_, ?_, i - 1, vM, M, ⟨rfl, rfl, rfl, rfl, rfl, trivial⟩, S, by omega, by omega, by rw [show i - 1 + 1 = i by omega]; exact hM.skip hi hi2 hk, rfl⟩⟩
      omega
  have hie : i + 1 = 0 := by omega
  rw [hie] at hM
  have hMc : cntOf vs M := fun item => hM.cnt item
  have hMv : validV M = true := validV_of (by have := hM.len; omega) fun x hx => by
    have := hM.mem x hx
    unfold validV at hvv
    rw [Bool.and_eq_true, Bool.not_eq_true', List.any_eq_false] at hvv
    simpa using hvv.2 x this
  have ea2 : royI t it M = (a, 0) := by rw [roy_same hvv hMv hMc]; exact ea
  obtain ⟨AM, cM', hz2⟩ := (S.rdRow (D := fGVerdict) (i := 4) rfl).len; subst hz2
  repeat' (first | refine WP_seq ?_ | refine WP_region ?_ | refine wl_nil ?_ | refine then_normal ?_ | refine then_exit ?_ | refine inB_here ?_ | refine WP_exit ?_ | (refine g_move ?_; refine st_move rfl ?_) | (refine g_b_geq ?_; refine st_val rfl (r_geq rfl rfl) ?_) | (refine WP_cond rfl (fun h => ?_) (fun h => ?_) <;> (fail_if_success (have hh : true = true := h)) <;> (fail_if_success (have hh : false = false := h)) <;> (try simp only [decide_eq_true_eq, decide_eq_false_iff_not, Bool.not_eq_true', Bool.not_eq_false', Int.not_lt, Int.not_le] at h) <;> (try (exfalso; omega)) <;> (try (exfalso; omega; done))))
  refine st_callR rfl (r_call3 rfl rfl rfl rfl) (roy_is ea (S.rdRow (D := fInt .i64) (i := 3) rfl) (S.rdRow (D := fGVerdict) (i := 2) rfl) (by omega) (by omega)) ?_
  rintro _ w hb ⟨vA, rfl, hrow⟩; replace S := S.new hb hrow; clear hb hrow
  obtain ⟨AA, cA, hz2⟩ := (S.rdRow (D := fInt .i64) (i := 5) rfl).len; subst hz2
  repeat' (first | refine WP_seq ?_ | refine WP_region ?_ | refine wl_nil ?_ | refine then_normal ?_ | (refine g_move ?_; refine st_move rfl ?_) | (refine g_assign ?_; refine st_assign rfl ?_) | (refine g_extract ?_; refine st_val rfl (r_extract rfl rfl) ?_))
  refine st_callR rfl (r_call3 rfl rfl rfl rfl) (roy_is ea2 (S.rdRow (D := fInt .i64) (i := 3) rfl) (S.rdRow (D := fGVerdict) (i := 4) rfl) (by omega) (by omega)) ?_
  rintro _ w hb ⟨vB, rfl, hrow⟩; replace S := S.new hb hrow; clear hb hrow
  have hal := hA.len
  rw [wts_len] at hal
  replace S : St w0 w [rowOb fGContract 70 (.slice AL l.length cL) l, rowOb fGSpot 63 (.slice AP sp.length cP) sp, rowOb fGVerdict 60 (.slice AV vs.length cV) vs, rowOb (fInt .i64) 3 (.slice AI it.length cI) it, rowOb fGVerdict 60 (.slice AM M.length cM') M, rowOb (fInt .i64) 3 (.slice AA a.length cA) a, rowOb (fInt .i64) 3 vB a] := S
  repeat' (first | refine WP_seq ?_ | refine WP_region ?_ | refine wl_nil ?_ | refine then_normal ?_ | refine WP_skip ?_ | refine WP_block ?_ | refine WP_condF rfl ?_ | (refine g_move ?_; refine st_move rfl ?_) | (refine g_assign ?_; refine st_assign rfl ?_) | (refine g_pick ?_; refine st_pickF rfl rfl ?_) | (refine g_b_neq ?_; refine st_val rfl (r_neq rfl rfl) ?_) | (refine g_un ?_; refine st_val rfl (r_not rfl) ?_) | (refine g_extract ?_; refine st_val rfl (r_extract rfl rfl) ?_) | (refine g_c_len ?_; refine st_val rfl (r_lenSlice rfl) ?_) | (refine g_callV ?_; (refine st_callV rfl (r_call2 rfl rfl rfl) (ints_is (b := true) (decide_eq_true rfl) (S.rdRow (D := fInt .i64) (i := 5) rfl) (S.rdRow (D := fInt .i64) (i := 6) rfl) (by omega) (by omega)) ?_; intro w hb; replace S := S.grow hb; clear hb)) | (refine wl_split rfl rfl (fun h => ?_) (fun h => ?_) <;> (fail_if_success (have hh : true = true := h)) <;> (fail_if_success (have hh : false = false := h)) <;> (try simp only [decide_eq_true_eq, decide_eq_false_iff_not, Bool.not_eq_true', Bool.not_eq_false', Int.not_lt, Int.not_le] at h) <;> (try (exfalso; omega)) <;> (try (exfalso; revert h; decide)) <;> (try (exfalso; omega; done))))
  have hwl := @wts_len it vs
  refine WP_loop (fun m σ w1 => ∃ (i p : Int) (bb : Bool), Has σ [(13, .slice AV vs.length cV), (15, .int .i64 t), (16, .slice AI it.length cI), (24, .slice AA a.length cA), (28, .int .i64 p), (29, .bool bb), (30, .int .i64 i)] ∧ St w0 w1 [rowOb fGContract 70 (.slice AL l.length cL) l, rowOb fGSpot 63 (.slice AP sp.length cP) sp, rowOb fGVerdict 60 (.slice AV vs.length cV) vs, rowOb (fInt .i64) 3 (.slice AI it.length cI) it, rowOb fGVerdict 60 (.slice AM M.length cM') M, rowOb (fInt .i64) 3 (.slice AA a.length cA) a, rowOb (fInt .i64) 3 vB a] ∧ 0 ≤ i ∧ i ≤ it.length ∧ p = sumN (fun k => nth a (k : Int)) i.toNat ∧ bb = decide (0 < sumN (fun k => cntV vs (nth it (k : Int))) i.toNat) ∧ m = it.length - i.toNat) it.length ⟨0, _, _, ⟨rfl, rfl, rfl, rfl, rfl, rfl, rfl, trivial⟩, S, by omega, by omega, rfl, rfl, by omega⟩ ?_
  clear S hs hi hm
  rintro m σ w1 ⟨i, p, bb, hs, S, hi0, hi1, hp, hbb, hm⟩
  refine WP_has hs ?_
  have hpb := @sumN_bnd (fun k => nth a (k : Int)) i.toNat 1000000 fun k hk => by have := hA.each k (by omega) (by omega); omega
  rw [← hp] at hpb
  have hwn := @sumN_nonneg (fun k => cntV vs (nth it (k : Int))) i.toNat fun k hk => (cntV_le).1
  by_cases hi : i < it.length
  · have hea := hA.each i hi0 (by omega)
    rw [wts_nth hi0 hi] at hea
    have hw0 := (@cntV_le vs (nth it i)).1
    have e1 : sumN (fun k => nth a (k : Int)) (i + 1).toNat = sumN (fun k => nth a (k : Int)) i.toNat + nth a i := by rw [show (i + 1).toNat = i.toNat + 1 by omega, sumN, show ((i.toNat : Nat) : Int) = i by omega]
    have e2 : sumN (fun k => cntV vs (nth it (k : Int))) (i + 1).toNat = sumN (fun k => cntV vs (nth it (k : Int))) i.toNat + cntV vs (nth it i) := by rw [show (i + 1).toNat = i.toNat + 1 by omega, sumN, show ((i.toNat : Nat) : Int) = i by omega]
    by_cases hc : 0 < cntV vs (nth it i)
    · cases bb with
      | false =>
        have hbb' := of_decide_eq_false hbb.symm
        repeat' (first | refine WP_seq ?_ | refine WP_region ?_ | refine wl_nil ?_ | refine then_normal ?_ | refine inB_normal ?_ | refine WP_skip ?_ | refine WP_block ?_ | (refine g_guard ?_; refine st_off rfl ?_) | (refine g_move ?_; refine st_move rfl ?_) | (refine g_assign ?_; refine st_assign rfl ?_) | (refine g_pick ?_; refine st_pickF rfl rfl ?_) | (refine g_b_add ?_; (refine st_val rfl (r_addN rfl rfl ?_ ?_) ?_; (first | omega | (simp <;> omega)); (first | omega | (simp <;> omega)))) | (refine g_b_lss ?_; refine st_val rfl (r_lss rfl rfl) ?_) | (refine g_un ?_; refine st_val rfl (r_not rfl) ?_) | (refine g_c_len ?_; refine st_val rfl (r_lenSlice rfl) ?_) | (refine g_indexAddr ?_; first | (refine st_val rfl (r_indexAddr (S.rdRow (D := (fInt .i64)) (i := 3) rfl) rfl rfl ?_ ?_) ?_; (first | omega | (simp <;> omega)); (first | omega | (simp <;> omega))) | (refine st_val rfl (r_indexAddr (S.rdRow (D := (fInt .i64)) (i := 5) rfl) rfl rfl ?_ ?_) ?_; (first | omega | (simp <;> omega)); (first | omega | (simp <;> omega)))) | (refine g_load ?_; first | (refine st_val rfl (r_loadElem1 (S.rdRow (D := (fInt .i64)) (i := 3) rfl) rfl ?_ ?_ rfl) ?_; (first | omega | (simp <;> omega)); (first | omega | (simp <;> omega))) | (refine st_val rfl (r_loadElem1 (S.rdRow (D := (fInt .i64)) (i := 5) rfl) rfl ?_ ?_ rfl) ?_; (first | omega | (simp <;> omega)); (first | omega | (simp <;> omega)))) | (refine g_callV ?_; (refine st_callV rfl (r_call5 rfl rfl rfl rfl rfl rfl) (heard_is (bb := true) (by rw [cntV_pos]; exact ⟨fun _ => rfl, fun _ => hc⟩) (S.rdRow (D := fGVerdict) (i := 2) rfl) (by omega) (by omega) (by omega) (by omega)) ?_; intro w hb; replace S := S.grow hb; clear hb)) | (refine WP_cond rfl (fun h => ?_) (fun h => ?_) <;> (fail_if_success (have hh : true = true := h)) <;> (fail_if_success (have hh : false = false := h)) <;> (try simp only [decide_eq_true_eq, decide_eq_false_iff_not, Bool.not_eq_true', Bool.not_eq_false', Int.not_lt, Int.not_le] at h) <;> (try (exfalso; omega)) <;> (try (exfalso; omega; done))))
        all_goals
          refine ⟨⟨_, ?_, i + 1, _, _, ⟨rfl, rfl, rfl, rfl, rfl, rfl, rfl, trivial⟩, S, by omega, by omega, by rw [e1, hp], ?_, rfl⟩⟩
          · omega
          · rw [e2, eq_comm, decide_eq_true]; omega
      | true =>
        have hbb' := of_decide_eq_true hbb.symm
        repeat' (first | refine WP_seq ?_ | refine WP_region ?_ | refine wl_nil ?_ | refine then_normal ?_ | refine inB_normal ?_ | refine WP_skip ?_ | refine WP_block ?_ | (refine g_guard ?_; refine st_off rfl ?_) | (refine g_move ?_; refine st_move rfl ?_) | (refine g_assign ?_; refine st_assign rfl ?_) | (refine g_pick ?_; first | refine st_pickT rfl rfl ?_ | refine st_pickF rfl rfl ?_) | (refine g_b_add ?_; (refine st_val rfl (r_addN rfl rfl ?_ ?_) ?_; (first | omega | (simp <;> omega)); (first | omega | (simp <;> omega)))) | (refine g_b_lss ?_; refine st_val rfl (r_lss rfl rfl) ?_) | (refine g_un ?_; refine st_val rfl (r_not rfl) ?_) | (refine g_c_len ?_; refine st_val rfl (r_lenSlice rfl) ?_) | (refine g_indexAddr ?_; first | (refine st_val rfl (r_indexAddr (S.rdRow (D := (fInt .i64)) (i := 3) rfl) rfl rfl ?_ ?_) ?_; (first | omega | (simp <;> omega)); (first | omega | (simp <;> omega))) | (refine st_val rfl (r_indexAddr (S.rdRow (D := (fInt .i64)) (i := 5) rfl) rfl rfl ?_ ?_) ?_; (first | omega | (simp <;> omega)); (first | omega | (simp <;> omega)))) | (refine g_load ?_; first | (refine st_val rfl (r_loadElem1 (S.rdRow (D := (fInt .i64)) (i := 3) rfl) rfl ?_ ?_ rfl) ?_; (first | omega | (simp <;> omega)); (first | omega | (simp <;> omega))) | (refine st_val rfl (r_loadElem1 (S.rdRow (D := (fInt .i64)) (i := 5) rfl) rfl ?_ ?_ rfl) ?_; (first | omega | (simp <;> omega)); (first | omega | (simp <;> omega)))) | (refine g_callV ?_; (refine st_callV rfl (r_call5 rfl rfl rfl rfl rfl rfl) (heard_is (bb := true) (by rw [cntV_pos]; exact ⟨fun _ => rfl, fun _ => hc⟩) (S.rdRow (D := fGVerdict) (i := 2) rfl) (by omega) (by omega) (by omega) (by omega)) ?_; intro w hb; replace S := S.grow hb; clear hb)) | (refine WP_cond rfl (fun h => ?_) (fun h => ?_) <;> (fail_if_success (have hh : true = true := h)) <;> (fail_if_success (have hh : false = false := h)) <;> (try simp only [decide_eq_true_eq, decide_eq_false_iff_not, Bool.not_eq_true', Bool.not_eq_false', Int.not_lt, Int.not_le] at h) <;> (try (exfalso; omega)) <;> (try (exfalso; omega; done))))
        all_goals
          refine ⟨⟨_, ?_, i + 1, _, _, ⟨rfl, rfl, rfl, rfl, rfl, rfl, rfl, trivial⟩, S, by omega, by omega, by rw [e1, hp], ?_, rfl⟩⟩
          · omega
          · rw [e2, eq_comm, decide_eq_true]; omega
    · have hz := hea.2.2 (by omega)
      cases bb with
      | false =>
        have hbb' := of_decide_eq_false hbb.symm
        repeat' (first | refine WP_seq ?_ | refine WP_region ?_ | refine wl_nil ?_ | refine then_normal ?_ | refine inB_normal ?_ | refine WP_skip ?_ | refine WP_block ?_ | (refine g_move ?_; refine st_move rfl ?_) | (refine g_assign ?_; refine st_assign rfl ?_) | (refine g_pick ?_; first | refine st_pickT rfl rfl ?_ | refine st_pickF rfl rfl ?_) | (refine g_b_add ?_; (refine st_val rfl (r_addN rfl rfl ?_ ?_) ?_; (first | omega | (simp <;> omega)); (first | omega | (simp <;> omega)))) | (refine g_b_neq ?_; refine st_val rfl (r_neq rfl rfl) ?_) | (refine g_b_lss ?_; refine st_val rfl (r_lss rfl rfl) ?_) | (refine g_un ?_; refine st_val rfl (r_not rfl) ?_) | (refine g_c_len ?_; refine st_val rfl (r_lenSlice rfl) ?_) | (refine g_indexAddr ?_; first | (refine st_val rfl (r_indexAddr (S.rdRow (D := (fInt .i64)) (i := 3) rfl) rfl rfl ?_ ?_) ?_; (first | omega | (simp <;> omega)); (first | omega | (simp <;> omega))) | (refine st_val rfl (r_indexAddr (S.rdRow (D := (fInt .i64)) (i := 5) rfl) rfl rfl ?_ ?_) ?_; (first | omega | (simp <;> omega)); (first | omega | (simp <;> omega)))) | (refine g_load ?_; first | (refine st_val rfl (r_loadElem1 (S.rdRow (D := (fInt .i64)) (i := 3) rfl) rfl ?_ ?_ rfl) ?_; (first | omega | (simp <;> omega)); (first | omega | (simp <;> omega))) | (refine st_val rfl (r_loadElem1 (S.rdRow (D := (fInt .i64)) (i := 5) rfl) rfl ?_ ?_ rfl) ?_; (first | omega | (simp <;> omega)); (first | omega | (simp <;> omega)))) | (refine g_callV ?_; (refine st_callV rfl (r_call5 rfl rfl rfl rfl rfl rfl) (heard_is (bb := false) (by rw [cntV_pos]; exact ⟨fun h => absurd h hc, fun h => by cases h⟩) (S.rdRow (D := fGVerdict) (i := 2) rfl) (by omega) (by omega) (by omega) (by omega)) ?_; intro w hb; replace S := S.grow hb; clear hb)) | (refine wl_split rfl rfl (fun h => ?_) (fun h => ?_) <;> (fail_if_success (have hh : true = true := h)) <;> (fail_if_success (have hh : false = false := h)) <;> (try simp only [decide_eq_true_eq, decide_eq_false_iff_not, Bool.not_eq_true', Bool.not_eq_false', Int.not_lt, Int.not_le] at h) <;> (try (exfalso; omega)) <;> (try (exfalso; omega; done))) | (refine WP_cond rfl (fun h => ?_) (fun h => ?_) <;> (fail_if_success (have hh : true = true := h)) <;> (fail_if_success (have hh : false = false := h)) <;> (try simp only [decide_eq_true_eq, decide_eq_false_iff_not, Bool.not_eq_true', Bool.not_eq_false', Int.not_lt, Int.not_le] at h) <;> (try (exfalso; omega)) <;> (try (exfalso; omega; done))))
        all_goals
          refine ⟨⟨_, ?_, i + 1, _, _, ⟨rfl, rfl, rfl, rfl, rfl, rfl, rfl, trivial⟩, S, by omega, by omega, by rw [e1, hp], ?_, rfl⟩⟩
          · omega
          · rw [e2, eq_comm, decide_eq_false]; omega
      | true =>
        have hbb' := of_decide_eq_true hbb.symm
        repeat' (first | refine WP_seq ?_ | refine WP_region ?_ | refine wl_nil ?_ | refine then_normal ?_ | refine inB_normal ?_ | refine WP_skip ?_ | refine WP_block ?_ | (refine g_guard ?_; refine st_off rfl ?_) | (refine g_move ?_; refine st_move rfl ?_) | (refine g_assign ?_; refine st_assign rfl ?_) | (refine g_pick ?_; first | refine st_pickT rfl rfl ?_ | refine st_pickF rfl rfl ?_) | (refine g_b_add ?_; (refine st_val rfl (r_addN rfl rfl ?_ ?_) ?_; (first | omega | (simp <;> omega)); (first | omega | (simp <;> omega)))) | (refine g_b_neq ?_; refine st_val rfl (r_neq rfl rfl) ?_) | (refine g_b_lss ?_; refine st_val rfl (r_lss rfl rfl) ?_) | (refine g_un ?_; refine st_val rfl (r_not rfl) ?_) | (refine g_c_len ?_; refine st_val rfl (r_lenSlice rfl) ?_) | (refine g_indexAddr ?_; first | (refine st_val rfl (r_indexAddr (S.rdRow (D := (fInt .i64)) (i := 3) rfl) rfl rfl ?_ ?_) ?_; (first | omega | (simp <;> omega)); (first | omega | (simp <;> omega))) | (refine st_val rfl (r_indexAddr (S.rdRow (D := (fInt .i64)) (i := 5) rfl) rfl rfl ?_ ?_) ?_; (first | omega | (simp <;> omega)); (first | omega | (simp <;> omega)))) | (refine g_load ?_; first | (refine st_val rfl (r_loadElem1 (S.rdRow (D := (fInt .i64)) (i := 3) rfl) rfl ?_ ?_ rfl) ?_; (first | omega | (simp <;> omega)); (first | omega | (simp <;> omega))) | (refine st_val rfl (r_loadElem1 (S.rdRow (D := (fInt .i64)) (i := 5) rfl) rfl ?_ ?_ rfl) ?_; (first | omega | (simp <;> omega)); (first | omega | (simp <;> omega)))) | (refine g_callV ?_; (refine st_callV rfl (r_call5 rfl rfl rfl rfl rfl rfl) (heard_is (bb := false) (by rw [cntV_pos]; exact ⟨fun h => absurd h hc, fun h => by cases h⟩) (S.rdRow (D := fGVerdict) (i := 2) rfl) (by omega) (by omega) (by omega) (by omega)) ?_; intro w hb; replace S := S.grow hb; clear hb)) | (refine wl_split rfl rfl (fun h => ?_) (fun h => ?_) <;> (fail_if_success (have hh : true = true := h)) <;> (fail_if_success (have hh : false = false := h)) <;> (try simp only [decide_eq_true_eq, decide_eq_false_iff_not, Bool.not_eq_true', Bool.not_eq_false', Int.not_lt, Int.not_le] at h) <;> (try (exfalso; omega)) <;> (try (exfalso; omega; done))) | (refine WP_cond rfl (fun h => ?_) (fun h => ?_) <;> (fail_if_success (have hh : true = true := h)) <;> (fail_if_success (have hh : false = false := h)) <;> (try simp only [decide_eq_true_eq, decide_eq_false_iff_not, Bool.not_eq_true', Bool.not_eq_false', Int.not_lt, Int.not_le] at h) <;> (try (exfalso; omega)) <;> (try (exfalso; omega; done))))
        all_goals
          refine ⟨⟨_, ?_, i + 1, _, _, ⟨rfl, rfl, rfl, rfl, rfl, rfl, rfl, trivial⟩, S, by omega, by omega, by rw [e1, hp], ?_, rfl⟩⟩
          · omega
          · rw [e2, eq_comm, decide_eq_true]; omega
  · have hie2 : i.toNat = it.length := by omega
    rw [hie2] at hp hbb
    have ew : sumN (fun k => cntV vs (nth it (k : Int))) it.length = sumW (wts it vs) := by
      unfold sumW
      rw [hwl]
      exact sumN_congr fun k hk => (wts_nth (by omega) (by omega)).symm
    have ep : p = sumW a := by rw [hp]; unfold sumW; rw [hal]
    have hsu := hA.sum
    rw [ew] at hbb
    rw [← ep] at hsu
    cases bb with
    | false =>
      have hbb' := of_decide_eq_false hbb.symm
      have ew0 : sumW (wts it vs) = 0 := by rw [hie2] at hwn; rw [ew] at hwn; omega
      rw [if_pos ew0] at hsu
      repeat' (first | refine WP_seq ?_ | refine WP_region ?_ | refine wl_nil ?_ | refine then_normal ?_ | refine then_exit ?_ | refine inB_here ?_ | refine WP_ret ?_ | refine WP_exit ?_ | (refine g_guard ?_; refine st_off rfl ?_) | (refine g_move ?_; refine st_move rfl ?_) | (refine g_assign ?_; refine st_assign rfl ?_) | (refine g_pick ?_; first | refine st_pickT rfl rfl ?_ | refine st_pickF rfl rfl ?_) | (refine g_b_eql ?_; refine st_val rfl (r_eql rfl rfl) ?_) | (refine g_b_lss ?_; refine st_val rfl (r_lss rfl rfl) ?_) | (refine g_un ?_; refine st_val rfl (r_not rfl) ?_) | (refine g_c_len ?_; refine st_val rfl (r_lenSlice rfl) ?_) | (refine WP_cond rfl (fun h => ?_) (fun h => ?_) <;> (fail_if_success (have hh : true = true := h)) <;> (fail_if_success (have hh : false = false := h)) <;> (try simp only [decide_eq_true_eq, decide_eq_false_iff_not, Bool.not_eq_true', Bool.not_eq_false', Int.not_lt, Int.not_le] at h) <;> (try (exfalso; omega)) <;> (try (exfalso; omega; done))))
      all_goals exact end1 rfl rfl ⟨rb (by simp [hsu]), S.below⟩
    | true =>
      have hbb' := of_decide_eq_true hbb.symm
      rw [if_neg (by omega)] at hsu
      repeat' (first | refine WP_seq ?_ | refine WP_region ?_ | refine wl_nil ?_ | refine then_normal ?_ | refine then_exit ?_ | refine inB_here ?_ | refine WP_ret ?_ | refine WP_exit ?_ | (refine g_guard ?_; refine st_off rfl ?_) | (refine g_move ?_; refine st_move rfl ?_) | (refine g_assign ?_; refine st_assign rfl ?_) | (refine g_pick ?_; refine st_pickT rfl rfl ?_) | (refine g_b_eql ?_; refine st_val rfl (r_eql rfl rfl) ?_) | (refine g_b_lss ?_; refine st_val rfl (r_lss rfl rfl) ?_) | (refine g_c_len ?_; refine st_val rfl (r_lenSlice rfl) ?_) | (refine wl_split rfl rfl (fun h => ?_) (fun h => ?_) <;> (fail_if_success (have hh : true = true := h)) <;> (fail_if_success (have hh : false = false := h)) <;> (try simp only [decide_eq_true_eq, decide_eq_false_iff_not, Bool.not_eq_true', Bool.not_eq_false', Int.not_lt, Int.not_le] at h) <;> (try (exfalso; omega)) <;> (try (exfalso; omega; done))) | (refine WP_cond rfl (fun h => ?_) (fun h => ?_) <;> (fail_if_success (have hh : true = true := h)) <;> (fail_if_success (have hh : false = false := h)) <;> (try simp only [decide_eq_true_eq, decide_eq_false_iff_not, Bool.not_eq_true', Bool.not_eq_false', Int.not_lt, Int.not_le] at h) <;> (try (exfalso; omega)) <;> (try (exfalso; omega; done))))
      all_goals exact end1 rfl rfl ⟨rb (by simp [hsu]), S.below⟩
end Go.Proofs.YtijnbpnficcpmaaDoor
