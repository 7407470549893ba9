import Derived.Test.YtfdjnadopniaeaaW1
namespace Go.Proofs.Ytfdjnadopniaeaa
open Go Go.Gx Go.RowKit
open Kuhn
set_option linter.unusedVariables false
set_option linter.unusedSimpArgs false

abbrev bsL (b2 b3 b4 b5 b6 : Nat) (vl vu : Value) (kk : Int) (v4 v5 : Value) (R : List Ob) : List Ob := .var b2 22 [vl] :: .var b3 23 [vu] :: .var b4 26 [v4] :: .var b5 4 [v5] :: .var b6 3 [.int .i64 kk] :: R
theorem permR {a b : Ob} {P Q M : List Ob} : (a :: b :: (P ++ (Q ++ M))).Perm (P ++ (a :: (Q ++ (b :: M)))) := by
  have h1 : (a :: b :: (P ++ (Q ++ M))).Perm (P ++ (a :: b :: (Q ++ M))) := by
    refine (List.Perm.cons a List.perm_middle.symm).trans ?_
    exact List.perm_middle.symm
  exact h1.trans (List.Perm.append_left P (List.Perm.cons a List.perm_middle.symm))
theorem mem_iz {X : List Nat} {n : Nat} (h : ∀ x ∈ X, x < n) {x : Int} (hx : x ∈ iz X) : 0 ≤ x ∧ x < n := by
  obtain ⟨y, hy, rfl⟩ := List.mem_map.1 hx
  have := h y hy
  omega
theorem containsI_is {g : FuncId} [Enters Try.prog g] {cl : List Value} {p : Int → Bool} {v : Value} {l : List Int} {b : Bool} {w : World} (hr : Rd (fInt .i64).ty w v l) (hl : l.length ≤ 1000000000)
    (hp : ∀ x ∈ l, ∀ w', Below w.heap.size w w' → CallsV Try.prog g (.int .i64 x :: cl).toArray w' (.bool (p x))) (h : l.any p = b) :
    CallsV Try.prog 45 #[v, .func (.func g) #[] cl.toArray] w (.bool b) := by rw [← h]; exact containsFuncI_spec hr hl hp
theorem plyN_le {l : List GGrant} (hl : validG l = true) (k : Nat) : plyN l k ≤ 100 := by
  rw [← plsN_playsL]; exact plsN_le (playsL_ok hl) k
theorem any_iz {l : List GGrant} {us : List GUse} {i : Int} (h0 : 0 ≤ i) (X : List Nat) : ((iz X).any fun x => permG (nth l i) (nth us x)) = X.any (prmN l us i.toNat) := by
  rw [List.any_map]
  refine congrArg (fun f => X.any f) ?_
  funext u
  have := prmN_nth l us h0 (show (0 : Int) ≤ (u : Int) by omega)
  rw [Int.toNat_natCast] at this
  exact this.symm
set_option maxRecDepth 20000 in
set_option maxHeartbeats 16000000 in
theorem lack_run {l : List GGrant} {us : List GUse} {vl vu : Value} {w0 : World} (hr : Rd fGGrant.ty w0 vl l) (hr2 : Rd fGUse.ty w0 vu us) (hll : l.length ≤ 1000) (hul : us.length ≤ 1000000) :
    CallsR Try.prog 23 #[vl, vu] w0 fun v' w' => ∃ v1, v' = .tuple #[v1, .bool (lackI l us).2] ∧ NewRow (fInt .i64) 3 w0 w' v1 (lackI l us).1 := by
  have S := St.start w0
  have hl2 : l.length ≤ 1000000000 := by omega
  have hu2 : us.length ≤ 1000000000 := by omega
  obtain ⟨A0, c, rfl⟩ := hr.len
  obtain ⟨A2, cu, rfl⟩ := hr2.len
  refine CallsR.mk ?_
  refine calls_enterD Try.func23 rfl Try.ntmps23 rfl ?_
  refine WD_seq (WD_of ?_)
  repeat' (first | refine WP_region ?_ | refine wl_nil ?_ | (refine g_box ?_; refine st_valE rfl (r_box S rfl) ?_; rintro _ w ⟨b, rfl, -, S'⟩; replace S := S'; clear S') | (refine g_alloc ?_; refine st_valE rfl (r_alloc S) ?_; rintro _ w ⟨b, rfl, -, S'⟩; replace S := S'; clear S'))
  refine thenD_normal ?_
  by_cases hl : validG l = true
  · by_cases hu : validU us = true
    · have hl12 : l.length ≤ 12 := by unfold validG at hl; simp at hl; omega
      have hu10 : us.length ≤ 10 := by unfold validU at hu; simp at hu; omega
      obtain ⟨Ls, hLs⟩ : ∃ Ls, lackP (prmN l us) (plyN l) l.length us.length = Ls := ⟨_, rfl⟩
      have hres : lackI l us = lackM Ls := by unfold lackI; rw [if_pos ⟨hl, hu⟩, hLs]
      refine WD_seq (WD_of ?_)
      repeat' (first | refine WP_seq ?_ | refine WP_region ?_ | refine wl_nil ?_ | refine then_normal ?_ | refine WP_skip ?_ | refine WP_condF rfl ?_ | (refine g_move ?_; refine st_move rfl ?_) | (refine g_pick ?_; refine st_pickF rfl rfl ?_) | (refine g_un ?_; refine st_val rfl (r_not rfl) ?_) | (refine g_load ?_; first | refine st_val rfl (r_loadVar (i := 0) S rfl rfl rfl) ?_ | refine st_val rfl (r_loadVar (i := 1) S rfl rfl rfl) ?_) | (refine g_callV ?_; first | (refine st_callV rfl (r_call1 rfl rfl) (valid_is (hr.mono S.below) hl2 hl) ?_; intro w hb; replace S := S.grow hb; clear hb) | (refine st_callV rfl (r_call1 rfl rfl) (validUses_is (hr2.mono S.below) hu2 hu) ?_; intro w hb; replace S := S.grow hb; clear hb)))
      refine thenD_normal ?_
      refine WD_seq (WD_seq (WD_of ?_))
      repeat' (first | refine WP_region ?_ | refine wl_nil ?_ | (refine g_alloc ?_; refine st_valE rfl (r_alloc S) ?_; rintro _ w ⟨b, rfl, -, S'⟩; replace S := S'; clear S') | (refine g_store ?_; first | (refine st_skipE rfl (r_storeVar (i := 0) S rfl rfl rfl rfl (of_decide_eq_true rfl) (of_decide_eq_true rfl)) ?_; intro w S'; replace S := S'; clear S') | (refine st_skipE rfl (r_storeVar (i := 1) S rfl rfl rfl rfl (of_decide_eq_true rfl) (of_decide_eq_true rfl)) ?_; intro w S'; replace S := S'; clear S') | (refine st_skipE rfl (r_storeVar (i := 2) S rfl rfl rfl rfl (of_decide_eq_true rfl) (of_decide_eq_true rfl)) ?_; intro w S'; replace S := S'; clear S') | (refine st_skipE rfl (r_storeVar (i := 3) S rfl rfl rfl rfl (of_decide_eq_true rfl) (of_decide_eq_true rfl)) ?_; intro w S'; replace S := S'; clear S') | (refine st_skipE rfl (r_storeVar (i := 4) S rfl rfl rfl rfl (of_decide_eq_true rfl) (of_decide_eq_true rfl)) ?_; intro w S'; replace S := S'; clear S') | (refine st_skipE rfl (r_storeVar (i := 5) S rfl rfl rfl rfl (of_decide_eq_true rfl) (of_decide_eq_true rfl)) ?_; intro w S'; replace S := S'; clear S')))
      refine thenD_normal (WD_block ?_)
      refine WD_loop (fun k D σ w1 => ∃ (kk b2 b3 b4 b5 b6 : Nat), Has σ [(2, ptr b2), (3, ptr b3), (4, ptr b4), (5, ptr b5), (6, ptr b6)] ∧ St w0 w1 (bsL b2 b3 b4 b5 b6 (.slice A0 l.length c) (.slice A2 us.length cu) kk (.slice none 0 0) (.bool false) (marks D)) ∧ 1 ≤ kk ∧ kk ≤ us.length + 1 ∧ k = us.length + 1 - kk ∧ lackFrom (prmN l us) (plyN l) l.length us.length (us.length + 1 - kk) kk = Ls) us.length ⟨1, _, _, _, _, _, ⟨rfl, rfl, rfl, rfl, rfl, trivial⟩, S, by omega, by omega, by omega, hLs⟩ ?_
      clear S
      rintro k D σ w1 ⟨kk, b2, b3, b4, b5, b6, hsl, S, hk1, hkn, rfl, hfr⟩
      refine WD_has hsl ?_
      by_cases hk : kk ≤ us.length
      · refine WD_seq (WD_of ?_)
        repeat' (first | refine WP_seq ?_ | refine WP_region ?_ | refine wl_nil ?_ | refine then_normal ?_ | (refine g_b_leq ?_; refine st_val rfl (r_leq rfl rfl) ?_) | (refine g_c_len ?_; refine st_val rfl (r_lenSlice rfl) ?_) | (refine g_load ?_; first | refine st_val rfl (r_loadVar (i := 1) S rfl rfl rfl) ?_ | refine st_val rfl (r_loadVar (i := 4) S rfl rfl rfl) ?_))
        refine WP_cond rfl (fun _ => ?_) (fun h => absurd (of_decide_eq_false h) (by omega))
        repeat' (refine WP_skip ?_)
        refine thenD_normal ?_
        refine WD_seq (WD_block (WD_seq (WD_of ?_)))
        repeat' (first | refine WP_region ?_ | (refine g_c_len ?_; refine st_val rfl (r_lenSlice rfl) ?_) | (refine g_load ?_; first | refine st_val rfl (r_loadVar (i := 1) S rfl rfl rfl) ?_ | refine st_val rfl (r_loadVar (i := 4) S rfl rfl rfl) ?_))
        refine st_callR rfl (r_call2 rfl rfl rfl) sets_run ?_
        rintro vf w hb ⟨bn, bk, rfl, Sj⟩; replace S := (S.join Sj).perm List.perm_append_comm; clear hb Sj
        repeat' (refine wl_nil ?_)
        refine thenD_normal (WD_block (WD_range S rfl ?_))
        clear S
        intro fn L Dk w1 r hrr S
        obtain ⟨c', hc'⟩ : ∃ c', us.length + 1 - kk = c' + 1 := ⟨us.length - kk, by omega⟩
        rw [hc', lackFrom] at hfr
        have hrn : recJ r none = r := by subst hrr; rfl
        have hY : Yld w0 (.raw L (.loop r) :: bsL b2 b3 b4 b5 b6 (.slice A0 l.length c) (.slice A2 us.length cu) kk (.slice none 0 0) (.bool false) []) (fun v => .raw L (.loop (recJ r (some .ret))) :: bsL b2 b3 b4 b5 b6 (.slice A0 l.length c) (.slice A2 us.length cu) kk v (.bool true) []) (lackB (prmN l us) (plyN l) l.length) L kk us.length := by
          clear S hfr
          intro X v ex w hX hXb S ρ d ty pos af g fo a0 ats hf h0
          obtain ⟨Av, cv, hv⟩ := (S.rd (fInt .i64) (i := 0) rfl).len
          subst hv
          subst hrr
          refine ⟨fn, _, _, _, r_yield1 S (i := 1) rfl hf h0 rfl, ?_⟩
          refine round_WP (S.perm (List.Perm.swap _ _ _)) rfl rfl rfl (Fr_set _ _ _ _) ?_
          replace S := S.perm (List.Perm.swap _ _ _)
          refine WP_has (l := [(2, ptr b2), (3, ptr b3), (4, ptr b4), (5, ptr b5), (6, ptr b6), (29, .slice Av (iz X).length cv)]) ⟨rfl, rfl, rfl, rfl, rfl, rfl, trivial⟩ ?_
          repeat' (first | refine WP_region ?_ | refine wl_nil ?_ | (refine g_assign ?_; refine st_assign rfl ?_))
          refine ⟨rfl, _, S, fun w3 S3 => ?_⟩
          replace S := S3; clear S3
          have hlen : (iz X).length = kk := by simp [hX]
          repeat' (first | refine WP_seq ?_ | refine WP_region ?_ | refine wl_nil ?_ | refine then_normal ?_ | refine WP_block ?_ | (refine g_move ?_; refine st_move rfl ?_) | (refine g_assign ?_; refine st_assign rfl ?_) | (refine g_c_len ?_; refine st_val rfl (r_lenSlice rfl) ?_) | (refine g_load ?_; refine st_val rfl (r_loadVar (i := 2) S rfl rfl rfl) ?_))
          refine WP_loop (fun k σ w1 => ∃ (i : Int), Has σ [(2, ptr b2), (3, ptr b3), (4, ptr b4), (5, ptr b5), (6, ptr b6), (7, .slice Av (iz X).length cv), (8, .int .i64 (needTo (prmN l us) (plyN l) X i.toNat : Nat)), (30, .slice A0 l.length c), (31, .int .i64 l.length), (32, .int .i64 i)] ∧ St w0 w1 (.raw L _ :: rowOb (fInt .i64) 3 (.slice Av (iz X).length cv) (iz X) :: (bsL b2 b3 b4 b5 b6 (.slice A0 l.length c) (.slice A2 us.length cu) kk (.slice none 0 0) (.bool false) ex)) ∧ 0 ≤ i ∧ i ≤ l.length ∧ k = l.length - i.toNat) l.length ⟨0, ⟨rfl, rfl, rfl, rfl, rfl, rfl, rfl, rfl, rfl, rfl, trivial⟩, S, by omega, by omega, by omega⟩ ?_
          clear S
          rintro k σ w1 ⟨i, hsl, S, hi0, hi1, rfl⟩
          refine WP_has hsl ?_
          have hnl := needTo_le (perm := prmN l us) (X := X) (plyN_le hl) i.toNat
          by_cases hi : i < l.length
          · have hG := ok_of hl _ (nth_mem hi0 hi)
            have hns := needTo_succ (prmN l us) (plyN l) X i.toNat
            rw [show i.toNat + 1 = (i + 1).toNat by omega] at hns
            have hpl := plays_ok hl hi0 hi
            have hpi : ((plyN l i.toNat : Nat) : Int) = (nth l i).Plays := by unfold plyN; rw [Int.toNat_of_nonneg hi0, Int.toNat_of_nonneg hpl.1]
            have hany := any_iz (l := l) (us := us) hi0 X
            cases ha : X.any (prmN l us i.toNat)
            · rw [ha] at hns hany
              repeat' (first | refine WP_seq ?_ | refine WP_region ?_ | refine wl_nil ?_ | refine then_normal ?_ | refine WP_skip ?_ | refine WP_block ?_ | (refine g_move ?_; refine st_move rfl ?_) | (refine g_b_lss ?_; refine st_val rfl (r_lss rfl rfl) ?_) | (refine g_makeFunc ?_; refine st_val rfl (r_makeFn2 rfl rfl) ?_) | (refine g_indexAddr ?_; (refine st_val rfl (r_indexAddr (hr.mono S.below) rfl rfl ?_ ?_) ?_; (first | omega | (simp <;> omega)); (first | omega | (simp <;> omega)))) | (refine g_load ?_; (refine st_val rfl (r_loadElem (hr.mono S.below) rfl ?_ ?_) ?_; (first | omega | (simp <;> omega)); (first | omega | (simp <;> omega)))) | (refine g_alloc ?_; refine st_valE rfl (r_alloc S) ?_; rintro _ w ⟨b, rfl, -, S'⟩; replace S := S'.front; clear S') | (refine g_store ?_; first | (refine st_skipE rfl (r_storeVar (i := 0) S rfl rfl rfl rfl (of_decide_eq_true rfl) (of_decide_eq_true rfl)) ?_; intro w S'; replace S := S'; clear S') | (refine st_skipE rfl (r_storeVar (i := 1) S rfl rfl rfl rfl (of_decide_eq_true rfl) (of_decide_eq_true rfl)) ?_; intro w S'; replace S := S'; clear S') | (refine st_skipE rfl (r_storeVar (i := 2) S rfl rfl rfl rfl (of_decide_eq_true rfl) (of_decide_eq_true rfl)) ?_; intro w S'; replace S := S'; clear S') | (refine st_skipE rfl (r_storeVar (i := 3) S rfl rfl rfl rfl (of_decide_eq_true rfl) (of_decide_eq_true rfl)) ?_; intro w S'; replace S := S'; clear S') | (refine st_skipE rfl (r_storeVar (i := 4) S rfl rfl rfl rfl (of_decide_eq_true rfl) (of_decide_eq_true rfl)) ?_; intro w S'; replace S := S'; clear S') | (refine st_skipE rfl (r_storeVar (i := 5) S rfl rfl rfl rfl (of_decide_eq_true rfl) (of_decide_eq_true rfl)) ?_; intro w S'; replace S := S'; clear S') | (refine st_skipE rfl (r_storeVar (i := 6) S rfl rfl rfl rfl (of_decide_eq_true rfl) (of_decide_eq_true rfl)) ?_; intro w S'; replace S := S'; clear S') | (refine st_skipE rfl (r_storeVar (i := 7) S rfl rfl rfl rfl (of_decide_eq_true rfl) (of_decide_eq_true rfl)) ?_; intro w S'; replace S := S'; clear S')) | (refine WP_cond rfl (fun h => ?_) (fun h => ?_) <;> (fail_if_success (have hh : true = true := h)) <;> (fail_if_success (have hh : false = false := h)) <;> (try simp only [decide_eq_true_eq, decide_eq_false_iff_not, Bool.not_eq_true', Bool.not_eq_false', Int.not_lt, Int.not_le] at h) <;> (try (exfalso; omega))))
              refine st_callV rfl (r_call2 rfl rfl rfl) (containsI_is (g := 46) (p := fun x => permG (nth l i) (nth us x)) (cl := [ptr _, ptr b3]) (S.rdRow (D := fInt .i64) (i := 2) rfl) (by simp; omega) (fun x hx w' hbb => lack1_spec ((S.var (i := 0) rfl).mono hbb) ((S.var (i := 4) rfl).mono hbb) ((hr2.mono S.below).mono hbb) hG hu (mem_iz hXb hx).1 (mem_iz hXb hx).2) hany) ?_
              intro w hb; replace S := S.grow hb; clear hb
              repeat' (first | refine WP_region ?_ | refine wl_nil ?_ | refine then_normal ?_ | refine inB_normal ?_ | refine WP_skip ?_ | refine WP_condF rfl ?_ | (refine g_move ?_; refine st_move rfl ?_) | (refine g_b_add ?_; (refine st_val rfl (r_addN rfl rfl ?_ ?_) ?_; (first | omega | (simp <;> omega)); (first | omega | (simp <;> omega)))))
              refine nextI.mk ⟨_, ?_, i + 1, ⟨rfl, rfl, rfl, rfl, rfl, rfl, ?_, rfl, rfl, rfl, trivial⟩, S.tail, by omega, by omega, rfl⟩
              · omega
              · rw [hns]; rfl
            · rw [ha, if_pos rfl] at hns
              rw [ha] at hany
              repeat' (first | refine WP_seq ?_ | refine WP_region ?_ | refine wl_nil ?_ | refine then_normal ?_ | refine WP_skip ?_ | refine WP_block ?_ | (refine g_move ?_; refine st_move rfl ?_) | (refine g_b_lss ?_; refine st_val rfl (r_lss rfl rfl) ?_) | (refine g_makeFunc ?_; refine st_val rfl (r_makeFn2 rfl rfl) ?_) | (refine g_indexAddr ?_; (refine st_val rfl (r_indexAddr (hr.mono S.below) rfl rfl ?_ ?_) ?_; (first | omega | (simp <;> omega)); (first | omega | (simp <;> omega)))) | (refine g_load ?_; (refine st_val rfl (r_loadElem (hr.mono S.below) rfl ?_ ?_) ?_; (first | omega | (simp <;> omega)); (first | omega | (simp <;> omega)))) | (refine g_alloc ?_; refine st_valE rfl (r_alloc S) ?_; rintro _ w ⟨b, rfl, -, S'⟩; replace S := S'.front; clear S') | (refine g_store ?_; first | (refine st_skipE rfl (r_storeVar (i := 0) S rfl rfl rfl rfl (of_decide_eq_true rfl) (of_decide_eq_true rfl)) ?_; intro w S'; replace S := S'; clear S') | (refine st_skipE rfl (r_storeVar (i := 1) S rfl rfl rfl rfl (of_decide_eq_true rfl) (of_decide_eq_true rfl)) ?_; intro w S'; replace S := S'; clear S') | (refine st_skipE rfl (r_storeVar (i := 2) S rfl rfl rfl rfl (of_decide_eq_true rfl) (of_decide_eq_true rfl)) ?_; intro w S'; replace S := S'; clear S') | (refine st_skipE rfl (r_storeVar (i := 3) S rfl rfl rfl rfl (of_decide_eq_true rfl) (of_decide_eq_true rfl)) ?_; intro w S'; replace S := S'; clear S') | (refine st_skipE rfl (r_storeVar (i := 4) S rfl rfl rfl rfl (of_decide_eq_true rfl) (of_decide_eq_true rfl)) ?_; intro w S'; replace S := S'; clear S') | (refine st_skipE rfl (r_storeVar (i := 5) S rfl rfl rfl rfl (of_decide_eq_true rfl) (of_decide_eq_true rfl)) ?_; intro w S'; replace S := S'; clear S') | (refine st_skipE rfl (r_storeVar (i := 6) S rfl rfl rfl rfl (of_decide_eq_true rfl) (of_decide_eq_true rfl)) ?_; intro w S'; replace S := S'; clear S') | (refine st_skipE rfl (r_storeVar (i := 7) S rfl rfl rfl rfl (of_decide_eq_true rfl) (of_decide_eq_true rfl)) ?_; intro w S'; replace S := S'; clear S')) | (refine WP_cond rfl (fun h => ?_) (fun h => ?_) <;> (fail_if_success (have hh : true = true := h)) <;> (fail_if_success (have hh : false = false := h)) <;> (try simp only [decide_eq_true_eq, decide_eq_false_iff_not, Bool.not_eq_true', Bool.not_eq_false', Int.not_lt, Int.not_le] at h) <;> (try (exfalso; omega))))
              refine st_callV rfl (r_call2 rfl rfl rfl) (containsI_is (g := 46) (p := fun x => permG (nth l i) (nth us x)) (cl := [ptr _, ptr b3]) (S.rdRow (D := fInt .i64) (i := 2) rfl) (by simp; omega) (fun x hx w' hbb => lack1_spec ((S.var (i := 0) rfl).mono hbb) ((S.var (i := 4) rfl).mono hbb) ((hr2.mono S.below).mono hbb) hG hu (mem_iz hXb hx).1 (mem_iz hXb hx).2) hany) ?_
              intro w hb; replace S := S.grow hb; clear hb
              repeat' (first | refine WP_region ?_ | refine wl_nil ?_ | refine then_normal ?_ | refine inB_normal ?_ | refine WP_condT rfl ?_ | (refine g_move ?_; refine st_move rfl ?_) | (refine g_assign ?_; refine st_assign rfl ?_) | (refine g_b_add ?_; (refine st_val rfl (r_addN rfl rfl ?_ ?_) ?_; (first | omega | (simp <;> omega)); (first | omega | (simp <;> omega)))) | (refine g_fieldAddr ?_; refine st_val rfl (r_fieldAddrL rfl) ?_) | (refine g_load ?_; refine st_val rfl (r_loadVar (i := 0) S rfl rfl rfl) ?_))
              refine nextI.mk ⟨_, ?_, i + 1, ⟨rfl, rfl, rfl, rfl, rfl, rfl, ?_, rfl, rfl, rfl, trivial⟩, S.tail, by omega, by omega, rfl⟩
              · omega
              · show Value.int .i64 (_ + (nth l i).Plays) = _
                rw [hns, ← hpi]; rfl
          · have e : i.toNat = l.length := by omega
            have hnd : needTo (prmN l us) (plyN l) X l.length = need (prmN l us) (plyN l) l.length X := rfl
            rw [e, hnd] at hnl ⊢
            by_cases hp : lackB (prmN l us) (plyN l) l.length X = true
            · have hp' : need (prmN l us) (plyN l) l.length X < kk := by unfold lackB at hp; rw [hX] at hp; simpa using hp
              repeat' (first | refine WP_seq ?_ | refine WP_region ?_ | refine wl_nil ?_ | refine then_normal ?_ | refine then_exit ?_ | refine inB_here ?_ | refine inB_ret ?_ | refine WP_ret ?_ | refine WP_exit ?_ | (refine g_move ?_; refine st_move rfl ?_) | (refine g_b_lss ?_; refine st_val rfl (r_lss rfl rfl) ?_) | (refine g_load ?_; refine st_val rfl (r_loadVar (i := 6) S rfl rfl rfl) ?_) | (refine g_store ?_; first | (refine st_skipE rfl (r_storeVar (i := 0) S rfl rfl rfl rfl (of_decide_eq_true rfl) (of_decide_eq_true rfl)) ?_; intro w S'; replace S := S'; clear S') | (refine st_skipE rfl (r_storeVar (i := 1) S rfl rfl rfl rfl (of_decide_eq_true rfl) (of_decide_eq_true rfl)) ?_; intro w S'; replace S := S'; clear S') | (refine st_skipE rfl (r_storeVar (i := 2) S rfl rfl rfl rfl (of_decide_eq_true rfl) (of_decide_eq_true rfl)) ?_; intro w S'; replace S := S'; clear S') | (refine st_skipE rfl (r_storeVar (i := 3) S rfl rfl rfl rfl (of_decide_eq_true rfl) (of_decide_eq_true rfl)) ?_; intro w S'; replace S := S'; clear S') | (refine st_skipE rfl (r_storeVar (i := 4) S rfl rfl rfl rfl (of_decide_eq_true rfl) (of_decide_eq_true rfl)) ?_; intro w S'; replace S := S'; clear S') | (refine st_skipE rfl (r_storeVar (i := 5) S rfl rfl rfl rfl (of_decide_eq_true rfl) (of_decide_eq_true rfl)) ?_; intro w S'; replace S := S'; clear S') | (refine st_skipE rfl (r_storeVar (i := 6) S rfl rfl rfl rfl (of_decide_eq_true rfl) (of_decide_eq_true rfl)) ?_; intro w S'; replace S := S'; clear S') | (refine st_skipE rfl (r_storeVar (i := 7) S rfl rfl rfl rfl (of_decide_eq_true rfl) (of_decide_eq_true rfl)) ?_; intro w S'; replace S := S'; clear S')) | (refine WP_cond rfl (fun h => ?_) (fun h => ?_) <;> (fail_if_success (have hh : true = true := h)) <;> (fail_if_success (have hh : false = false := h)) <;> (try simp only [decide_eq_true_eq, decide_eq_false_iff_not, Bool.not_eq_true', Bool.not_eq_false', Int.not_lt, Int.not_le] at h) <;> (try (exfalso; omega))))
              refine ⟨some .ret, _, rfl, S, fun w5 S5 => .inl ⟨hp, rfl, S5.perm (List.Perm.swap _ _ _)⟩⟩
            · have hp' : ¬ need (prmN l us) (plyN l) l.length X < kk := by unfold lackB at hp; rw [hX] at hp; simpa using hp
              repeat' (first | refine WP_seq ?_ | refine WP_region ?_ | refine wl_nil ?_ | refine then_normal ?_ | refine inB_normal ?_ | refine then_exit ?_ | refine inB_here ?_ | refine WP_skip ?_ | refine WP_exit ?_ | (refine g_move ?_; refine st_move rfl ?_) | (refine g_b_lss ?_; refine st_val rfl (r_lss rfl rfl) ?_) | (refine g_load ?_; refine st_val rfl (r_loadVar (i := 6) S rfl rfl rfl) ?_) | (refine WP_cond rfl (fun h => ?_) (fun h => ?_) <;> (fail_if_success (have hh : true = true := h)) <;> (fail_if_success (have hh : false = false := h)) <;> (try simp only [decide_eq_true_eq, decide_eq_false_iff_not, Bool.not_eq_true', Bool.not_eq_false', Int.not_lt, Int.not_le] at h) <;> (try (exfalso; omega))))
              refine ⟨none, _, rfl, S, fun w5 S5 => .inr ⟨by simpa using hp, rfl, S5.perm (List.Perm.swap _ _ _)⟩⟩
        have S2 := S.perm (permR (P := [_, _]) (Q := [_, _, _, _, _]))
        refine Calls.mono (sets1_run (base := .raw L (.loop r) :: bsL b2 b3 b4 b5 b6 (.slice A0 l.length c) (.slice A2 us.length cu) kk (.slice none 0 0) (.bool false) []) (ex := .raw Dk (.deferred (some [])) :: marks D) (by omega) (by omega) hY S2).out ?_
        clear S S2
        rintro e w' ⟨u, rfl, hE⟩
        refine ⟨⟨u, rfl⟩, ?_⟩
        cases hfd : (cmb kk (List.range us.length)).find? (lackB (prmN l us) (plyN l) l.length) with
        | none =>
          rw [hfd] at hE hfr
          obtain ⟨ex', S, rfl⟩ := hE
          refine ⟨none, _, by rw [hrn]; exact S, fun w2 S => inBD_normal (inBD_normal (thenD_normal (WD_of ?_)))⟩
          repeat' (first | refine WP_seq ?_ | refine WP_region ?_ | refine wl_nil ?_ | refine then_normal ?_ | (refine g_b_add ?_; (refine st_val rfl (r_addN rfl rfl ?_ ?_) ?_; (first | omega | (simp <;> omega)); (first | omega | (simp <;> omega)))) | (refine g_load ?_; first | refine st_val rfl (r_loadVar (i := 0) S rfl rfl rfl) ?_ | refine st_val rfl (r_loadVar (i := 4) S rfl rfl rfl) ?_) | (refine g_alloc ?_; refine st_valE rfl (r_alloc S) ?_; rintro _ w ⟨b, rfl, -, S'⟩; replace S := S'.front; clear S') | (refine g_store ?_; first | (refine st_skipE rfl (r_storeVar (i := 0) S rfl rfl rfl rfl (of_decide_eq_true rfl) (of_decide_eq_true rfl)) ?_; intro w S'; replace S := S'; clear S') | (refine st_skipE rfl (r_storeVar (i := 1) S rfl rfl rfl rfl (of_decide_eq_true rfl) (of_decide_eq_true rfl)) ?_; intro w S'; replace S := S'; clear S') | (refine st_skipE rfl (r_storeVar (i := 2) S rfl rfl rfl rfl (of_decide_eq_true rfl) (of_decide_eq_true rfl)) ?_; intro w S'; replace S := S'; clear S') | (refine st_skipE rfl (r_storeVar (i := 3) S rfl rfl rfl rfl (of_decide_eq_true rfl) (of_decide_eq_true rfl)) ?_; intro w S'; replace S := S'; clear S') | (refine st_skipE rfl (r_storeVar (i := 4) S rfl rfl rfl rfl (of_decide_eq_true rfl) (of_decide_eq_true rfl)) ?_; intro w S'; replace S := S'; clear S') | (refine st_skipE rfl (r_storeVar (i := 5) S rfl rfl rfl rfl (of_decide_eq_true rfl) (of_decide_eq_true rfl)) ?_; intro w S'; replace S := S'; clear S') | (refine st_skipE rfl (r_storeVar (i := 6) S rfl rfl rfl rfl (of_decide_eq_true rfl) (of_decide_eq_true rfl)) ?_; intro w S'; replace S := S'; clear S')))
          refine ⟨_, ?_, kk + 1, b2, b3, b4, b5, _, ⟨rfl, rfl, rfl, rfl, rfl, trivial⟩, ?_, by omega, by omega, rfl, ?_⟩
          · omega
          · exact ((S.sub (.cons_cons _ (.cons_cons _ (.cons_cons _ (.cons_cons _ (.cons_cons _ (.cons _ (List.Sublist.refl _)))))))).perm (List.perm_middle (l₁ := [_, _, _, _])).symm)
          · rw [show us.length + 1 - (kk + 1) = c' by omega]; exact hfr
        | some X =>
          rw [hfd] at hE hfr
          obtain ⟨vX, ex', S⟩ := hE
          refine ⟨some .ret, _, S.perm (List.Perm.swap _ _ _), fun w2 S => WD_ret (inBD_ret (inBD_ret (thenD_ret ?_)))⟩
          have hls : lackI l us = (iz X, true) := by rw [hres, ← hfr]; rfl
          have S5 : St w0 w2 (marks (Dk :: D) ++ (rowOb (fInt .i64) 3 vX (iz X) :: (bsL b2 b3 b4 b5 b6 (.slice A0 l.length c) (.slice A2 us.length cu) kk vX (.bool true) ex'))) := by
            have := S.perm (List.perm_append_comm (l₁ := rowOb (fInt .i64) 3 vX (iz X) :: (bsL b2 b3 b4 b5 b6 (.slice A0 l.length c) (.slice A2 us.length cu) kk vX (.bool true) ex')) (l₂ := marks (Dk :: D)))
            exact this
          exact leaves_marks (fun w' S' => ⟨_, res_cells2 rfl rfl rfl S' (i := 3) rfl (i2 := 4) rfl, _, rfl, S'.below, vX, by rw [hls], by rw [hls]; exact S'.row (i := 0) rfl⟩) (Dk :: D) w2 S5
      · refine WD_seq (WD_of ?_)
        repeat' (first | refine WP_seq ?_ | refine WP_region ?_ | refine wl_nil ?_ | refine then_normal ?_ | (refine g_b_leq ?_; refine st_val rfl (r_leq rfl rfl) ?_) | (refine g_c_len ?_; refine st_val rfl (r_lenSlice rfl) ?_) | (refine g_load ?_; first | refine st_val rfl (r_loadVar (i := 1) S rfl rfl rfl) ?_ | refine st_val rfl (r_loadVar (i := 4) S rfl rfl rfl) ?_))
        refine WP_cond rfl (fun h => absurd (of_decide_eq_true h) (by omega)) (fun _ => ?_)
        repeat' (refine WP_exit ?_)
        refine thenD_exit (thenD_exit (inBD_here (thenD_normal (WD_of ?_))))
        rw [show us.length + 1 - kk = 0 by omega, lackFrom] at hfr
        have hls : lackI l us = ([], false) := by rw [hres, ← hfr]; rfl
        repeat' (first | refine WP_seq ?_ | refine WP_region ?_ | refine wl_nil ?_ | refine then_normal ?_ | refine WP_ret ?_ | (refine g_store ?_; first | (refine st_skipE rfl (r_storeVar (i := 0) S rfl rfl rfl rfl (of_decide_eq_true rfl) (of_decide_eq_true rfl)) ?_; intro w S'; replace S := S'; clear S') | (refine st_skipE rfl (r_storeVar (i := 1) S rfl rfl rfl rfl (of_decide_eq_true rfl) (of_decide_eq_true rfl)) ?_; intro w S'; replace S := S'; clear S') | (refine st_skipE rfl (r_storeVar (i := 2) S rfl rfl rfl rfl (of_decide_eq_true rfl) (of_decide_eq_true rfl)) ?_; intro w S'; replace S := S'; clear S') | (refine st_skipE rfl (r_storeVar (i := 3) S rfl rfl rfl rfl (of_decide_eq_true rfl) (of_decide_eq_true rfl)) ?_; intro w S'; replace S := S'; clear S') | (refine st_skipE rfl (r_storeVar (i := 4) S rfl rfl rfl rfl (of_decide_eq_true rfl) (of_decide_eq_true rfl)) ?_; intro w S'; replace S := S'; clear S') | (refine st_skipE rfl (r_storeVar (i := 5) S rfl rfl rfl rfl (of_decide_eq_true rfl) (of_decide_eq_true rfl)) ?_; intro w S'; replace S := S'; clear S')))
        have S5 := S.perm (List.perm_append_comm (l₁ := [_, _, _, _, _]) (l₂ := marks D))
        exact leaves_marks (fun w' S' => ⟨_, res_cells2 rfl rfl rfl S' (i := 2) rfl (i2 := 3) rfl, _, rfl, S'.below, .slice none 0 0, by rw [hls]; rfl, by rw [hls]; exact NewRow.nil _ _ _ _⟩) D _ S5
    · refine WD_seq (WD_of ?_)
      have hres : lackI l us = ([], false) := if_neg (fun h => hu h.2)
      repeat' (first | refine WP_seq ?_ | refine WP_region ?_ | refine wl_nil ?_ | refine then_normal ?_ | refine WP_ret ?_ | refine WP_condT rfl ?_ | (refine g_move ?_; refine st_move rfl ?_) | (refine g_pick ?_; refine st_pickF rfl rfl ?_) | (refine g_un ?_; refine st_val rfl (r_not rfl) ?_) | (refine g_load ?_; first | refine st_val rfl (r_loadVar (i := 0) S rfl rfl rfl) ?_ | refine st_val rfl (r_loadVar (i := 1) S rfl rfl rfl) ?_) | (refine g_callV ?_; first | (refine st_callV rfl (r_call1 rfl rfl) (valid_is (hr.mono S.below) hl2 hl) ?_; intro w hb; replace S := S.grow hb; clear hb) | (refine st_callV rfl (r_call1 rfl rfl) (validUses_is (hr2.mono S.below) hu2 (Bool.eq_false_iff.2 hu)) ?_; intro w hb; replace S := S.grow hb; clear hb)) | (refine g_store ?_; first | (refine st_skipE rfl (r_storeVar (i := 0) S rfl rfl rfl rfl (of_decide_eq_true rfl) (of_decide_eq_true rfl)) ?_; intro w S'; replace S := S'; clear S') | (refine st_skipE rfl (r_storeVar (i := 1) S rfl rfl rfl rfl (of_decide_eq_true rfl) (of_decide_eq_true rfl)) ?_; intro w S'; replace S := S'; clear S') | (refine st_skipE rfl (r_storeVar (i := 2) S rfl rfl rfl rfl (of_decide_eq_true rfl) (of_decide_eq_true rfl)) ?_; intro w S'; replace S := S'; clear S') | (refine st_skipE rfl (r_storeVar (i := 3) S rfl rfl rfl rfl (of_decide_eq_true rfl) (of_decide_eq_true rfl)) ?_; intro w S'; replace S := S'; clear S')))
      refine thenD_ret (leaves_marks (fun w' S' => ⟨_, res_cells2 rfl rfl rfl S' (i := 2) rfl (i2 := 3) rfl, _, rfl, S'.below, .slice none 0 0, by rw [hres]; rfl, by rw [hres]; exact NewRow.nil _ _ _ _⟩) [] _ S)
  · refine WD_seq (WD_of ?_)
    have hres : lackI l us = ([], false) := if_neg (fun h => hl h.1)
    repeat' (first | refine WP_seq ?_ | refine WP_region ?_ | refine wl_nil ?_ | refine then_normal ?_ | refine WP_ret ?_ | refine WP_condT rfl ?_ | (refine g_guard ?_; refine st_off rfl ?_) | (refine g_move ?_; refine st_move rfl ?_) | (refine g_pick ?_; refine st_pickT rfl rfl ?_) | (refine g_un ?_; refine st_val rfl (r_not rfl) ?_) | (refine g_load ?_; refine st_val rfl (r_loadVar (i := 0) S rfl rfl rfl) ?_) | (refine g_callV ?_; (refine st_callV rfl (r_call1 rfl rfl) (valid_is (hr.mono S.below) hl2 (Bool.eq_false_iff.2 hl)) ?_; intro w hb; replace S := S.grow hb; clear hb)) | (refine g_store ?_; first | (refine st_skipE rfl (r_storeVar (i := 0) S rfl rfl rfl rfl (of_decide_eq_true rfl) (of_decide_eq_true rfl)) ?_; intro w S'; replace S := S'; clear S') | (refine st_skipE rfl (r_storeVar (i := 1) S rfl rfl rfl rfl (of_decide_eq_true rfl) (of_decide_eq_true rfl)) ?_; intro w S'; replace S := S'; clear S') | (refine st_skipE rfl (r_storeVar (i := 2) S rfl rfl rfl rfl (of_decide_eq_true rfl) (of_decide_eq_true rfl)) ?_; intro w S'; replace S := S'; clear S') | (refine st_skipE rfl (r_storeVar (i := 3) S rfl rfl rfl rfl (of_decide_eq_true rfl) (of_decide_eq_true rfl)) ?_; intro w S'; replace S := S'; clear S')))
    refine thenD_ret (leaves_marks (fun w' S' => ⟨_, res_cells2 rfl rfl rfl S' (i := 2) rfl (i2 := 3) rfl, _, rfl, S'.below, .slice none 0 0, by rw [hres]; rfl, by rw [hres]; exact NewRow.nil _ _ _ _⟩) [] _ S)
end Go.Proofs.Ytfdjnadopniaeaa
