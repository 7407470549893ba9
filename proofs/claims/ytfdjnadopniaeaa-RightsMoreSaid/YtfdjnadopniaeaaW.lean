import Derived.Test.YtfdjnadopniaeaaV
namespace Go.Proofs.Ytfdjnadopniaeaa
open Go Go.Gx Go.RowKit
open Kuhn
set_option linter.unusedVariables false
set_option linter.unusedSimpArgs false

abbrev extV (bk bY bn bf : Nat) : Value := .func (.func 55) #[] [ptr bk, ptr bY, ptr bn, ptr bf].toArray
abbrev yldV (L : Nat) : Value := .func (.yield L) #[] #[]
/-- What the iterator's own variables hold. -/
abbrev fxS (bk bY bn bf L : Nat) (kk n : Nat) (R : List Ob) : List Ob := .var bk 3 [.int .i64 kk] :: .var bY 82 [yldV L] :: .var bn 3 [.int .i64 n] :: .var bf 48 [extV bk bY bn bf] :: R
theorem perm1 {v x : Ob} {F B E : List Ob} : (v :: (F ++ (x :: (B ++ E)))).Perm (v :: (B ++ (F ++ (x :: E)))) := by
  refine List.Perm.cons _ ?_
  have h1 : (F ++ (x :: (B ++ E))).Perm (F ++ (B ++ (x :: E))) := List.Perm.append_left F List.perm_middle.symm
  exact h1.trans (List.perm_append_comm_assoc _ _ _)
theorem perm2 {v : Ob} {A F B E : List Ob} : (v :: (A ++ (F ++ (B ++ E)))).Perm (F ++ (v :: (B ++ (A ++ E)))) := by
  refine (List.Perm.cons v ?_).trans List.perm_middle.symm
  exact (List.perm_append_comm_assoc _ _ _).trans (List.Perm.append_left F (List.perm_append_comm_assoc _ _ _))
theorem perm3 {x y : Ob} {F B E : List Ob} : (x :: (F ++ (y :: (B ++ E)))).Perm (y :: (F ++ (B ++ (x :: E)))) := by
  refine ((List.Perm.cons x List.perm_middle).trans (List.Perm.swap _ _ _)).trans (List.Perm.cons y ?_)
  have h : (x :: ((F ++ B) ++ E)).Perm ((F ++ B) ++ (x :: E)) := List.perm_middle.symm
  simpa [List.append_assoc] using h
theorem St.dropMid {w0 w : World} {v x : Ob} {F B E : List Ob} (S : St w0 w (F ++ (v :: (B ++ (x :: E))))) : St w0 w (F ++ (v :: (B ++ E))) :=
  S.sub (List.Sublist.append_left (List.Sublist.cons_cons v (List.Sublist.append_left (List.sublist_cons_self x E) B)) F)
/-- A call of yield, with the set X in the slice v: false, and the loop is left, if p X. -/
def Yld (w0 : World) (base : List Ob) (stop : Value → List Ob) (p : List Nat → Bool) (L kk n : Nat) : Prop :=
  ∀ (X : List Nat) (v : Value) (ex : List Ob) (w : World), X.length = kk → (∀ x ∈ X, x < n) → St w0 w (rowOb (fInt .i64) 3 v (iz X) :: (base ++ ex)) →
    ∀ {ρ : Operand → Value} {d : Option Tmp} {ty : TypeId} {pos : String} {af : Array Edge} {g : Option (Nat × Bool)} {fo a0 : Operand} {ats : Array TypeId}, ρ fo = yldV L → ρ a0 = v →
      ∃ f tmps a1 b, Runs Try.prog ρ ⟨d, .call { callee := .value fo, args := #[a0], argTypes := ats }, ty, pos, af, g⟩ w (.ok (.round L f tmps a1 b) w) ∧
        RoundIn Fence.wide 0 Try.prog L f tmps a1 b w fun e w'' => ∃ u, e = .returned u ∧ ((p X = true ∧ u = .bool false ∧ St w0 w'' (rowOb (fInt .i64) 3 v (iz X) :: (stop v ++ ex))) ∨ (p X = false ∧ u = .bool true ∧ St w0 w'' (rowOb (fInt .i64) 3 v (iz X) :: (base ++ ex))))
/-- How the search through some sets ends. -/
def ExtR (w0 : World) (stop : Value → List Ob) (p : List Nat → Bool) (ex : List Ob) (Ls : List (List Nat)) (os : List Ob) (u : Value) (w' : World) : Prop :=
  match Ls.find? p with
  | none => u = .bool true ∧ St w0 w' os
  | some X => u = .bool false ∧ ∃ vX ex', St w0 w' (rowOb (fInt .i64) 3 vX (iz X) :: (stop vX ++ (ex' ++ ex)))
theorem st_yld {w0 w : World} {base ex : List Ob} {stop : Value → List Ob} {p : List Nat → Bool} {L kk N n : Nat} {X : List Nat} {v : Value} {ops : Array Oper} {Q : Post} {σ : Nat → Value} {d : Option Tmp} {ty : TypeId} {pos : String} {af : Array Edge} {g : Option (Nat × Bool)} {fo a0 : Operand} {ats : Array TypeId} {rest : List Oper}
    (hw : wantS ⟨d, .call { callee := .value fo, args := #[a0], argTypes := ats }, ty, pos, af, g⟩ ops n σ = true) (hY : Yld w0 base stop p L kk N) (hX : X.length = kk) (hb : ∀ x ∈ X, x < N) (S : St w0 w (rowOb (fInt .i64) 3 v (iz X) :: (base ++ ex))) (hf : opv (cut n σ) fo = yldV L) (h0 : opv (cut n σ) a0 = v)
    (k : ∀ u w1, ((p X = true ∧ u = .bool false ∧ St w0 w1 (rowOb (fInt .i64) 3 v (iz X) :: (stop v ++ ex))) ∨ (p X = false ∧ u = .bool true ∧ St w0 w1 (rowOb (fInt .i64) 3 v (iz X) :: (base ++ ex)))) → wl Try.prog n ops Q rest (updO σ d u) w1) :
    wl Try.prog n ops Q (⟨d, .call { callee := .value fo, args := #[a0], argTypes := ats }, ty, pos, af, g⟩ :: rest) σ w := by
  obtain ⟨f, tm, a1, b1, hrun, hround⟩ := hY X v ex w hX hb S (ρ := opv (cut n σ)) (d := d) (ty := ty) (pos := pos) (af := af) (g := g) (fo := fo) (a0 := a0) (ats := ats) hf h0
  exact st_round hw hrun hround k
theorem cmb_cons (c a : Nat) (l : List Nat) : cmb (c + 1) (a :: l) = (cmb c l).map (a :: ·) ++ cmb (c + 1) l := rfl
theorem drop_none {n : Nat} {i : Nat} (h : n ≤ i) : (List.range n).drop i = [] := List.drop_eq_nil_of_le (by simpa using h)
set_option maxRecDepth 20000 in
set_option maxHeartbeats 16000000 in
theorem ext_run {w0 : World} {base : List Ob} {stop : Value → List Ob} {p : List Nat → Bool} {L kk n bk bY bn bf : Nat} (hn : n ≤ 1000) (hk : kk ≤ 1000) (hY : Yld w0 base stop p L kk n) :
    ∀ (c : Nat) (r : List Nat) (fi : Int) (v : Value) (ex : List Ob) (w : World), r.length + c = kk → 0 ≤ fi → fi ≤ n → (∀ x ∈ r, x < n) → St w0 w (fxS bk bY bn bf L kk n (rowOb (fInt .i64) 3 v (iz r) :: (base ++ ex))) →
      CallsW Try.prog 55 #[v, .int .i64 fi, ptr bk, ptr bY, ptr bn, ptr bf] w (ExtR w0 stop p ex ((cmb c ((List.range n).drop fi.toNat)).map (r ++ ·)) (fxS bk bY bn bf L kk n (rowOb (fInt .i64) 3 v (iz r) :: (base ++ ex)))) := by
  intro c
  induction c with
  | zero =>
    intro r fi v ex w hc hf0 hfn hrn S
    obtain ⟨Av, cv, hv⟩ := (S.rd (fInt .i64) (i := 4) rfl).len
    have hrl : (iz r).length = kk := by simp; omega
    have hrow := S.rdRow (D := fInt .i64) (i := 4) rfl
    subst hv
    refine CallsW.mk ?_
    refine calls_enter Try.func55 rfl (by intro _ h; first | exact nomatch h.1 | (obtain ⟨_, h, _⟩ := h; exact nomatch h)) Try.ntmps55 rfl ?_
    repeat' (first | refine WP_seq ?_ | refine WP_region ?_ | refine wl_nil ?_ | refine then_normal ?_ | (refine g_move ?_; refine st_move rfl ?_) | (refine g_assign ?_; refine st_assign rfl ?_) | (refine g_b_eql ?_; refine st_val rfl (r_eql rfl rfl) ?_) | (refine g_c_len ?_; refine st_val rfl (r_lenSlice rfl) ?_) | (refine g_load ?_; refine st_val rfl (r_loadVar (i := 0) S rfl rfl rfl) ?_))
    refine WP_cond rfl (fun _ => ?_) (fun h => absurd (of_decide_eq_false h) (by omega))
    repeat' (first | refine WP_seq ?_ | (refine WP_drawJ (fun w' => St w0 w' [.var bY 82 [yldV L]]) [0,1] [2] [3,4] (by kernel_rfl) (by decide) (by decide +kernel) (fun w' hb => (S.grow hb).keep [false, true]) ?_; intro w hb; replace S := S.grow hb; clear hb) | refine jq_nil ?_ | (refine gj_move ?_; refine jq_val rfl (fun w' hJ => ⟨rfl⟩) ?_) | (refine gj_assign ?_; refine jq_val rfl (fun w' hJ => ⟨rfl⟩) ?_) | (refine gj_load ?_; refine jq_val rfl (fun w' hJ => r_loadVar (i := 0) hJ rfl rfl rfl) ?_))
    refine wj_callR rfl (r_call1 rfl rfl) (cloneI_run (S.rdRow (D := fInt .i64) (i := 4) rfl) (by simp; omega)) ?_
    rintro vX w hb hrowX; replace S := (S.new hb hrowX).front; clear hb hrowX
    refine ⟨S.keep [false, false, true], wj_nil ?_⟩
    have S2 : St w0 w (rowOb (fInt .i64) 3 vX (iz r) :: (base ++ (fxS bk bY bn bf L kk n (rowOb (fInt .i64) 3 (.slice Av (iz r).length cv) (iz r) :: ex)))) := S.perm (perm1 (F := [_, _, _, _]))
    refine st_yld rfl hY (by omega) hrn S2 rfl rfl ?_
    have hmap : ((cmb 0 ((List.range n).drop fi.toNat)).map (r ++ ·)) = [r] := by simp [cmb]
    rw [hmap]
    rintro u w (⟨hp, rfl, S'⟩ | ⟨hp, rfl, S'⟩)
    · repeat' (first | refine wl_nil ?_ | refine then_normal ?_ | refine then_ret ?_ | refine WP_ret ?_ | (refine g_assign ?_; refine st_assign rfl ?_))
      refine end1 rfl rfl ⟨_, rfl, ?_⟩
      unfold ExtR
      rw [List.find?_cons_of_pos (by exact hp)]
      exact ⟨rfl, vX, [_, _, _, _, _], S'⟩
    · repeat' (first | refine wl_nil ?_ | refine then_normal ?_ | refine then_ret ?_ | refine WP_ret ?_ | (refine g_assign ?_; refine st_assign rfl ?_))
      refine end1 rfl rfl ⟨_, rfl, ?_⟩
      unfold ExtR
      rw [List.find?_cons_of_neg (by rw [hp]; decide), List.find?_nil]
      exact ⟨rfl, (S'.perm (perm1 (F := [_, _, _, _])).symm).tail⟩
  | succ c ih =>
    intro r fi v ex w hc hf0 hfn hrn S
    obtain ⟨Av, cv, hv⟩ := (S.rd (fInt .i64) (i := 4) rfl).len
    have hrl : (iz r).length + c + 1 = kk := by simp; omega
    subst hv
    refine CallsW.mk ?_
    refine calls_enter Try.func55 rfl (by intro _ h; first | exact nomatch h.1 | (obtain ⟨_, h, _⟩ := h; exact nomatch h)) Try.ntmps55 rfl ?_
    repeat' (first | refine WP_seq ?_ | refine WP_region ?_ | refine wl_nil ?_ | refine then_normal ?_ | (refine g_move ?_; refine st_move rfl ?_) | (refine g_assign ?_; refine st_assign rfl ?_) | (refine g_b_eql ?_; refine st_val rfl (r_eql rfl rfl) ?_) | (refine g_c_len ?_; refine st_val rfl (r_lenSlice rfl) ?_) | (refine g_load ?_; refine st_val rfl (r_loadVar (i := 0) S rfl rfl rfl) ?_))
    refine WP_cond rfl (fun h => absurd (of_decide_eq_true h) (by omega)) (fun _ => ?_)
    repeat' (first | refine WP_seq ?_ | refine WP_region ?_ | refine wl_nil ?_ | refine then_normal ?_ | refine WP_skip ?_ | refine WP_block ?_ | (refine g_move ?_; refine st_move rfl ?_) | (refine g_assign ?_; refine st_assign rfl ?_))
    refine WP_loop (fun k σ w1 => ∃ (i : Int), Has σ [(0, .slice Av (iz r).length cv), (4, ptr bn), (5, ptr bf), (9, .int .i64 i)] ∧ St w0 w1 (fxS bk bY bn bf L kk n (rowOb (fInt .i64) 3 (.slice Av (iz r).length cv) (iz r) :: (base ++ ex))) ∧ 0 ≤ i ∧ i ≤ n ∧ k = n - i.toNat ∧
      (((cmb (c + 1) ((List.range n).drop i.toNat)).map (r ++ ·)).find? p = ((cmb (c + 1) ((List.range n).drop fi.toNat)).map (r ++ ·)).find? p)) (n - fi.toNat) ⟨fi, ⟨rfl, rfl, rfl, rfl, trivial⟩, S, by omega, by omega, by omega, rfl⟩ ?_
    clear S
    rintro k σ w1 ⟨i, hsl, S, hi0, hi1, rfl, hfd⟩
    refine WP_has hsl ?_
    by_cases hi : i < n
    · rw [drop_range hi0 hi, cmb_cons, List.map_append, List.find?_append, List.map_map] at hfd
      have hfun : ((fun x => r ++ x) ∘ fun x => i.toNat :: x) = fun x => (r ++ [i.toNat]) ++ x := by funext x; simp
      rw [hfun] at hfd
      repeat' (first | refine WP_seq ?_ | refine WP_region ?_ | refine wl_nil ?_ | refine then_normal ?_ | (refine g_move ?_; refine st_move rfl ?_) | (refine g_b_lss ?_; refine st_val rfl (r_lss rfl rfl) ?_) | (refine g_load ?_; refine st_val rfl (r_loadVar (i := 2) S rfl rfl rfl) ?_))
      refine WP_cond rfl (fun _ => ?_) (fun h => absurd (of_decide_eq_false h) (by omega))
      repeat' (first | refine WP_seq ?_ | refine then_normal ?_ | refine WP_skip ?_ | refine WP_block ?_ | (refine WP_drawJ (fun w' => St w0 w' [.var bf 48 [extV bk bY bn bf]]) [0,1,2,5,6] [3,4] [7,8] (by kernel_rfl) (by decide) (by decide +kernel) (fun w' hb => (S.grow hb).keep [false, false, false, true]) ?_; intro w hb; replace S := S.grow hb; clear hb) | refine jq_nil ?_ | (refine gj_move ?_; refine jq_val rfl (fun w' hJ => ⟨rfl⟩) ?_) | (refine gj_assign ?_; refine jq_val rfl (fun w' hJ => ⟨rfl⟩) ?_) | (refine gj_b_add ?_; (refine jq_val rfl (fun w' hJ => r_addN rfl rfl ?_ ?_) ?_; (first | omega | (simp <;> omega)); (first | omega | (simp <;> omega)))) | (refine gj_load ?_; refine jq_val rfl (fun w' hJ => r_loadVar (i := 0) hJ rfl rfl rfl) ?_))
      refine wj_valE rfl (r_litF (D := fInt .i64) [i] (Value.int .i64) S rfl rfl (fun _ => rfl) rfl (by decide) (by decide)) ?_
      rintro _ w ⟨bl, rfl, -, -, S'⟩
      have hlit := S'.front.rdRow (D := fInt .i64) (i := 0) rfl
      refine ⟨S'.keep [false, false, false, true], ?_⟩
      replace S := S'.front.perm (perm3 (F := [_, _, _, _])); clear S'
      refine wj_valE rfl (r_appendKeep (D := fInt .i64) (e := 3) S hlit (by simp) rfl rfl rfl (by decide) oneI (by simp; omega) (by simp [maxLen]; omega)) ?_
      rintro va' w ⟨old, S', hback⟩
      have e5 : iz r ++ [i] = iz (r ++ [i.toNat]) := by
        have := iz_app r i.toNat; rw [Int.toNat_of_nonneg hi0] at this; exact this
      have S2 := S'.perm (perm2 (F := [_, _, _, _]))
      refine ⟨S2.keep [false, false, false, true], wj_nil ?_⟩
      rw [e5] at S2 hback
      clear S S'
      refine st_callW rfl (r_call2 rfl rfl rfl) (ih (r ++ [i.toNat]) (i + 1) va' _ w (by simp; omega) (by omega) (by omega) (fun x hx => by
        rcases List.mem_append.1 hx with hx | hx
        · exact hrn x hx
        · rw [List.mem_singleton.1 hx]; omega) S2) ?_
      intro u w hE
      unfold ExtR at hE
      cases hfind : ((cmb c ((List.range n).drop (i + 1).toNat)).map ((r ++ [i.toNat]) ++ ·)).find? p with
      | none =>
        rw [hfind] at hE hfd
        obtain ⟨rfl, S3⟩ := hE
        have S4 := hback _ _ (S3.perm (perm2 (F := [_, _, _, _])).symm)
        have S5 := St.dropMid (F := [_, _, _, _]) (S4.perm List.perm_middle.symm)
        repeat' (first | refine WP_region ?_ | refine wl_nil ?_ | refine then_normal ?_ | refine inB_normal ?_ | refine WP_skip ?_ | refine WP_condF rfl ?_ | (refine g_move ?_; refine st_move rfl ?_) | (refine g_assign ?_; refine st_assign rfl ?_) | (refine g_b_add ?_; (refine st_val rfl (r_addN rfl rfl ?_ ?_) ?_; (first | omega | (simp <;> omega)); (first | omega | (simp <;> omega)))) | (refine g_un ?_; refine st_val rfl (r_not rfl) ?_))
        refine nextI.mk ⟨_, ?_, i + 1, ⟨rfl, rfl, rfl, rfl, trivial⟩, S5, by omega, by omega, rfl, hfd⟩
        omega
      | some X =>
        rw [hfind] at hE hfd
        obtain ⟨rfl, vX, ex', S3⟩ := hE
        repeat' (first | refine WP_seq ?_ | refine WP_region ?_ | refine wl_nil ?_ | refine then_normal ?_ | refine then_ret ?_ | refine inB_ret ?_ | refine WP_ret ?_ | refine WP_condT rfl ?_ | (refine g_assign ?_; refine st_assign rfl ?_) | (refine g_un ?_; refine st_val rfl (r_not rfl) ?_))
        refine end1 rfl rfl ⟨_, rfl, ?_⟩
        unfold ExtR
        rw [← hfd]
        exact ⟨rfl, vX, ex' ++ (old ++ [_]), by simpa [List.append_assoc] using S3⟩
    · rw [drop_none (show n ≤ i.toNat by omega)] at hfd
      repeat' (first | refine WP_seq ?_ | refine WP_region ?_ | refine wl_nil ?_ | refine then_normal ?_ | refine then_exit ?_ | refine inB_here ?_ | refine WP_ret ?_ | refine WP_exit ?_ | (refine g_move ?_; refine st_move rfl ?_) | (refine g_assign ?_; refine st_assign rfl ?_) | (refine g_b_lss ?_; refine st_val rfl (r_lss rfl rfl) ?_) | (refine g_load ?_; refine st_val rfl (r_loadVar (i := 2) S rfl rfl rfl) ?_) | (refine WP_cond rfl (fun h => ?_) (fun h => ?_) <;> (fail_if_success (have hh : true = true := h)) <;> (fail_if_success (have hh : false = false := h)) <;> (try simp only [decide_eq_true_eq, decide_eq_false_iff_not, Bool.not_eq_true', Bool.not_eq_false', Int.not_lt, Int.not_le] at h) <;> (try (exfalso; omega))))
      refine end1 rfl rfl ⟨_, rfl, ?_⟩
      unfold ExtR
      rw [← hfd]
      exact ⟨rfl, S⟩
end Go.Proofs.Ytfdjnadopniaeaa
