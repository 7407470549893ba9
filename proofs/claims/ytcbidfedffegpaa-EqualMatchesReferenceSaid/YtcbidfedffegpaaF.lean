import Derived.Test.YtcbidfedffegpaaE
import Derived.Test.YtcbidfedffegpaaGxSort
import Derived.Test.YtcbidfedffegpaaGxExact
import Derived.Shelf.SlicesG.Cmp
import Derived.Shelf.SlSortCmp.NoneTotal
import Derived.Test.YtcbidfedffegpaaChecked
namespace Go.Proofs
open Go.Shelf
def Ytcbidfedffegpaa.sortClaim_ren : Go.Shelf.Ren := ⟨fun | 6 => 34 | 15 => 44 | 14 => 43 | 28 => 56 | 29 => 57 | 20 => 48 | 21 => 49 | 22 => 50 | 23 => 51 | 24 => 52 | 25 => 53 | 26 => 54 | 27 => 55 | 46 => 58 | 47 => 59 | 48 => 60 | 49 => 61 | 50 => 62 | 57 => 63 | n => n, fun | 22 => 31 | 24 => 39 | 25 => 68 | 3 => 3 | 39 => 76 | 0 => 0 | 53 => 90 | 55 => 92 | 4 => 4 | 46 => 83 | 45 => 82 | 50 => 87 | 5 => 5 | 9 => 9 | 66 => 94 | 70 => 98 | 76 => 100 | 77 => 101 | n => n, fun | n => n⟩
theorem Ytcbidfedffegpaa.sortClaim : Go.Proofs.SlLaysF0.n6 Try.prog Ytcbidfedffegpaa.sortClaim_ren := {
  mixed := by kernel_rfl,
  f6 := ⟨Try.f34.name, by decide, Try.func34.trans (congrArg some (by kernel_rfl))⟩,
  f14 := ⟨Try.f43.name, by decide, Try.func43.trans (congrArg some (by kernel_rfl))⟩,
  f15 := Try.func44.trans (congrArg some (by kernel_rfl)),
  f20 := ⟨Try.f48.name, by decide, Try.func48.trans (congrArg some (by kernel_rfl))⟩,
  f21 := ⟨Try.f49.name, by decide, Try.func49.trans (congrArg some (by kernel_rfl))⟩,
  f22 := ⟨Try.f50.name, by decide, Try.func50.trans (congrArg some (by kernel_rfl))⟩,
  f23 := ⟨Try.f51.name, by decide, Try.func51.trans (congrArg some (by kernel_rfl))⟩,
  f24 := ⟨Try.f52.name, by decide, Try.func52.trans (congrArg some (by kernel_rfl))⟩,
  f25 := ⟨Try.f53.name, by decide, Try.func53.trans (congrArg some (by kernel_rfl))⟩,
  f26 := ⟨Try.f54.name, by decide, Try.func54.trans (congrArg some (by kernel_rfl))⟩,
  f27 := ⟨Try.f55.name, by decide, Try.func55.trans (congrArg some (by kernel_rfl))⟩,
  f28 := Try.func56.trans (congrArg some (by kernel_rfl)),
  f29 := Try.func57.trans (congrArg some (by kernel_rfl)),
  f46 := ⟨Try.f58.name, by decide, Try.func58.trans (congrArg some (by kernel_rfl))⟩,
  f47 := Try.func59.trans (congrArg some (by kernel_rfl)),
  f48 := Try.func60.trans (congrArg some (by kernel_rfl)),
  f49 := ⟨Try.f61.name, by decide, Try.func61.trans (congrArg some (by kernel_rfl))⟩,
  f50 := ⟨Try.f62.name, by decide, Try.func62.trans (congrArg some (by kernel_rfl))⟩,
  f57 := ⟨Try.f63.name, by decide, Try.func63.trans (congrArg some (by kernel_rfl))⟩,
  t0 := Try.underlying0,
  a0 := Try.isAgg0,
  z0 := Try.sizeOf0,
  v0 := Try.zeroValue0,
  t3 := Try.underlying3,
  a3 := Try.isAgg3,
  z3 := Try.sizeOf3,
  v3 := Try.zeroValue3,
  t4 := Try.underlying4,
  a4 := Try.isAgg4,
  z4 := Try.sizeOf4,
  v4 := Try.zeroValue4,
  t5 := Try.underlying5,
  a5 := Try.isAgg5,
  z5 := Try.sizeOf5,
  v5 := Try.zeroValue5,
  t9 := Try.underlying9,
  a9 := Try.isAgg9,
  z9 := Try.sizeOf9,
  v9 := Try.zeroValue9,
  t22 := Try.underlying31,
  a22 := Try.isAgg31,
  z22 := Try.sizeOf31,
  v22 := Try.zeroValue31,
  t25 := Try.underlying68,
  a25 := Try.isAgg68,
  z25 := Try.sizeOf68,
  v25 := Try.zeroValue68,
  t39 := Try.underlying76,
  a39 := Try.isAgg76,
  z39 := Try.sizeOf76,
  v39 := Try.zeroValue76,
  t45 := Try.underlying82,
  a45 := Try.isAgg82,
  z45 := Try.sizeOf82,
  v45 := Try.zeroValue82,
  t46 := Try.underlying83,
  a46 := Try.isAgg83,
  z46 := Try.sizeOf83,
  v46 := Try.zeroValue83,
  t50 := Try.underlying87,
  a50 := Try.isAgg87,
  z50 := Try.sizeOf87,
  v50 := Try.zeroValue87,
  t53 := Try.underlying90,
  a53 := Try.isAgg90,
  z53 := Try.sizeOf90,
  v53 := Try.zeroValue90,
  t55 := Try.underlying92,
  a55 := Try.isAgg92,
  z55 := Try.sizeOf92,
  v55 := Try.zeroValue92,
  t66 := Try.underlying94,
  a66 := Try.isAgg94,
  z66 := Try.sizeOf94,
  v66 := Try.zeroValue94,
  t70 := Try.underlying98,
  a70 := Try.isAgg98,
  z70 := Try.sizeOf98,
  v70 := Try.zeroValue98,
  t76 := Try.underlying100,
  a76 := Try.isAgg100,
  z76 := Try.sizeOf100,
  v76 := Try.zeroValue100,
  t77 := Try.underlying101,
  a77 := Try.isAgg101,
  z77 := Try.sizeOf101,
  v77 := Try.zeroValue101 }
def Ytcbidfedffegpaa.cmpInt_ren : Go.Shelf.Ren := ⟨fun | 5 => 37 | 7 => 45 | n => n, fun | 22 => 3 | 3 => 3 | 4 => 4 | n => n, fun | n => n⟩
theorem Ytcbidfedffegpaa.cmpInt : Go.Proofs.SlLaysC2.n5 Try.prog Ytcbidfedffegpaa.cmpInt_ren := {
  mixed := by kernel_rfl,
  f5 := ⟨Try.f37.name, by decide, Try.func37.trans (congrArg some (by kernel_rfl))⟩,
  f7 := ⟨Try.f45.name, by decide, Try.func45.trans (congrArg some (by kernel_rfl))⟩,
  t3 := Try.underlying3,
  a3 := Try.isAgg3,
  z3 := Try.sizeOf3,
  v3 := Try.zeroValue3,
  t4 := Try.underlying4,
  a4 := Try.isAgg4,
  z4 := Try.sizeOf4,
  v4 := Try.zeroValue4,
  t22 := Try.underlying3,
  a22 := Try.isAgg3,
  z22 := Try.sizeOf3,
  v22 := Try.zeroValue3 }
end Go.Proofs
namespace Go.Proofs.Ytcbidfedffegpaa
open Go Go.Gx Go.RowKit
set_option linter.unusedVariables false
set_option linter.unusedSimpArgs false
def cmpI (a b : Int) : Int := if a < b then -1 else if b < a then 1 else 0
theorem compareInt_cmpI (a b : Int) : Lib.compareInt a b = cmpI a b := rfl
theorem compare_x (x y : Int) (w : World) : CallsW Try.prog 37 #[.int .i64 x, .int .i64 y] w (fun v w' => v = .int .i64 (cmpI x y) ∧ w' = w) :=
  ⟨Calls.mono (AnyG.cmp_Compare_int Ytcbidfedffegpaa.cmpInt x y w) fun e w' h => by rcases h with ⟨rfl, rfl⟩; exact ⟨_, rfl, rfl, rfl⟩⟩
def orI (a b : Int) : Int := if a = 0 then b else a
theorem or_x {a b : Int} {v : Value} {w0 : World} (hr : Rd (fInt .i64).ty w0 v [a, b]) : CallsW Try.prog 36 #[v] w0 (fun v w' => v = .int .i64 (orI a b) ∧ w' = w0) := by
  have S := St.start w0
  obtain ⟨A, c, rfl⟩ := hr.len
  have e0 : nth [a, b] 0 = a := rfl
  have e1 : nth [a, b] 1 = b := rfl
  refine CallsW.mk ?_
  refine calls_enter Try.func36 rfl (by intro _ h; first | exact nomatch h.1 | (obtain ⟨_, h, _⟩ := h; exact nomatch h)) Try.ntmps36 rfl ?_
  repeat' (first | refine WP_seq ?_ | refine WP_region ?_ | refine wl_nil ?_ | refine then_normal ?_ | refine WP_block ?_ | (refine g_move ?_; refine st_move rfl ?_) | (refine g_assign ?_; refine st_assign rfl ?_) | (refine g_c_len ?_; refine st_val rfl (r_lenSlice rfl) ?_))
  refine WP_loop (fun k σ w1 => ∃ i : Int, Has σ [(3, .int .i64 0), (6, .slice A 2 c), (7, .int .i64 2), (8, .int .i64 i)] ∧ w1 = w0 ∧ 0 ≤ i ∧ i ≤ 2 ∧ (1 ≤ i → a = 0) ∧ (2 ≤ i → b = 0) ∧ k = 2 - i.toNat) 2 ⟨0, ⟨rfl, rfl, rfl, rfl, trivial⟩, rfl, by omega, by omega, by omega, by omega, by omega⟩ ?_
  rintro k σ w1 ⟨i, hs', rfl, hi0, hi1, ha, hb, rfl⟩
  refine WP_has hs' ?_
  by_cases hi : i < 2
  · have ei : (i = 0 ∧ nth [a, b] i = a) ∨ (i = 1 ∧ nth [a, b] i = b) := by
      by_cases h : i = 0
      · subst h; exact .inl ⟨rfl, e0⟩
      · have : i = 1 := by omega
        subst this; exact .inr ⟨rfl, e1⟩
    repeat' (first | refine WP_seq ?_ | refine WP_region ?_ | refine wl_nil ?_ | refine then_normal ?_ | refine inB_normal ?_ | refine then_ret ?_ | refine inB_ret ?_ | refine WP_ret ?_ | refine WP_skip ?_ | refine WP_block ?_ | (refine g_move ?_; refine st_move rfl ?_) | (refine g_assign ?_; refine st_assign rfl ?_) | (refine g_b_add ?_; (refine st_val rfl (r_addN rfl rfl ?_ ?_) ?_; (first | omega | (simp <;> omega)); (first | omega | (simp <;> omega)))) | (refine g_b_neq ?_; refine st_val rfl (r_neq rfl rfl) ?_) | (refine g_b_lss ?_; refine st_val rfl (r_lss rfl rfl) ?_) | (refine g_indexAddr ?_; (refine st_val rfl (r_indexAddr (hr.mono S.below) rfl rfl ?_ ?_) ?_; (first | omega | (simp <;> omega)); (first | omega | (simp <;> omega)))) | (refine g_load ?_; (refine st_val rfl (r_loadElem1 (hr.mono S.below) rfl ?_ ?_ rfl) ?_; (first | omega | (simp <;> omega)); (first | omega | (simp <;> omega)))) | (refine WP_cond rfl (fun h => ?_) (fun h => ?_) <;> (fail_if_success (have hh : true = true := h)) <;> (fail_if_success (have hh : false = false := h)) <;> (try simp only [decide_eq_true_eq, decide_eq_false_iff_not, Bool.not_eq_true', Bool.not_eq_false', Int.not_lt, Int.not_le] at h) <;> (try (exfalso; omega))))
    · refine end1 rfl rfl ⟨_, rfl, ?_, rfl⟩
      show Value.int .i64 (nth [a, b] i) = _
      congr 1
      unfold orI
      rcases ei with ⟨_, e⟩ | ⟨h1, e⟩
      · rw [e] at h ⊢; rw [if_neg h]
      · rw [e]; rw [if_pos (ha (by omega))]
    · refine ⟨⟨_, ?_, i + 1, ⟨rfl, rfl, rfl, rfl, trivial⟩, rfl, by omega, by omega, ?_, ?_, rfl⟩⟩
      · omega
      · intro _; rcases ei with ⟨_, e⟩ | ⟨h1, e⟩
        · rw [← e]; exact h
        · exact ha (by omega)
      · intro _; rcases ei with ⟨_, e⟩ | ⟨h1, e⟩
        · omega
        · rw [← e]; exact h
  · repeat' (first | refine WP_seq ?_ | refine WP_region ?_ | refine wl_nil ?_ | refine then_normal ?_ | refine then_exit ?_ | refine inB_here ?_ | refine WP_ret ?_ | refine WP_exit ?_ | (refine g_move ?_; refine st_move rfl ?_) | (refine g_assign ?_; refine st_assign rfl ?_) | (refine g_b_lss ?_; refine st_val rfl (r_lss rfl rfl) ?_) | (refine WP_cond rfl (fun h => ?_) (fun h => ?_) <;> (fail_if_success (have hh : true = true := h)) <;> (fail_if_success (have hh : false = false := h)) <;> (try simp only [decide_eq_true_eq, decide_eq_false_iff_not, Bool.not_eq_true', Bool.not_eq_false', Int.not_lt, Int.not_le] at h) <;> (try (exfalso; omega))))
    refine end1 rfl rfl ⟨_, rfl, ?_, rfl⟩
    unfold orI
    rw [ha (by omega), hb (by omega)]; rfl
def cfC (x y : GClaim) : Int := orI (cmpI x.Of y.Of) (cmpI x.Candidate y.Candidate)
theorem claims1_x (x y : GClaim) (w0 : World) : CallsW Try.prog 35 #[.agg x.enc.toArray, .agg y.enc.toArray] w0 (fun v w' => v = .int .i64 (cfC x y) ∧ GX w0 w') := by
  have S := St.start w0
  refine CallsW.mk ?_
  refine calls_enter Try.func35 rfl (by intro _ h; first | exact nomatch h.1 | (obtain ⟨_, h, _⟩ := h; exact nomatch h)) Try.ntmps35 rfl ?_
  refine WP_seq ?_
  refine WP_region ?_
  refine st_valE rfl (r_boxX S rfl) ?_
  rintro _ w1 ⟨b1, rfl, G1, S1⟩
  refine st_valE rfl (r_boxX S1 rfl) ?_
  rintro _ w2 ⟨b2, rfl, G2, S2⟩
  have G := G1.trans G2
  replace S : St w0 w2 [.var b1 39 x.enc, .var b2 39 y.enc] := S2
  clear S1 S2 G1 G2
  refine st_assign rfl ?_
  refine wl_nil ?_
  refine then_normal ?_
  refine WP_seq ?_
  refine WP_drawJx (fun w' => St w0 w' [.var b1 39 x.enc, .var b2 39 y.enc] ∧ GX w0 w') [0,1,2,3,5,6,7,8] [4,9,10,11] [12] (by kernel_rfl) (by decide) (by decide +kernel) ⟨S.grow (drew_grown _), G.trans (GX.drew _)⟩ ?_
  replace S := S.grow (drew_grown w2)
  replace G := G.trans (GX.drew w2)
  generalize ({ w2 with drawn := w2.drawn + 1 } : World) = w at S G ⊢
  repeat' (first | refine jq_nil ?_ | (refine gj_fieldAddr ?_; refine jq_val rfl (fun w' hJ => r_fieldAddrL rfl) ?_) | (refine jq_val rfl (fun w' hJ => r_loadVar (i := 0) hJ.1 rfl rfl rfl) ?_) | (refine jq_val rfl (fun w' hJ => r_loadVar (i := 1) hJ.1 rfl rfl rfl) ?_))
  refine wj_callW rfl (r_call2 rfl rfl rfl) (compare_x x.Of y.Of _) ?_
  rintro _ _ ⟨rfl, rfl⟩
  refine ⟨⟨S, G⟩, ?_⟩
  refine wj_callW rfl (r_call2 rfl rfl rfl) (compare_x x.Candidate y.Candidate _) ?_
  rintro _ _ ⟨rfl, rfl⟩
  refine ⟨⟨S, G⟩, ?_⟩
  refine wj_valE rfl (r_litFX (D := fInt .i64) [cmpI x.Of y.Of, cmpI x.Candidate y.Candidate] (fun x => .int .i64 x) S rfl rfl (fun _ => rfl) rfl (by decide) (by decide)) ?_
  rintro _ w3 ⟨b3, rfl, G3, -, S'⟩
  replace G := G.trans G3
  have hrd := S'.rdRow (D := fInt .i64) (i := 2) rfl
  replace S : St w0 w3 [.var b1 39 x.enc, .var b2 39 y.enc] := S'.sub (List.sublist_append_left _ _)
  refine ⟨⟨S, G⟩, ?_⟩
  refine wj_callW rfl (r_call1 rfl rfl) (or_x hrd) ?_
  rintro _ _ ⟨rfl, rfl⟩
  refine ⟨⟨S, G⟩, ?_⟩
  refine wj_nil ?_
  repeat' (first | refine wl_nil ?_ | refine then_normal ?_ | refine WP_ret ?_ | (refine g_assign ?_; refine st_assign rfl ?_))
  exact end1 rfl rfl ⟨_, rfl, rfl, G⟩
theorem cfC_lt (x y : GClaim) : (ltOf cfC x y = true) ↔ (x.Of < y.Of ∨ (x.Of = y.Of ∧ x.Candidate < y.Candidate)) := by
  unfold ltOf cfC orI cmpI
  rw [decide_eq_true_eq]
  (repeat' split) <;> omega
def ltC (x y : GClaim) : Bool := ltOf cfC x y
theorem swoC : Go.Sort.SWO ltC where
  irrefl x := by have := cfC_lt x x; unfold ltC; cases h : ltOf cfC x x <;> simp_all
  trans x y z h1 h2 := by unfold ltC at *; rw [cfC_lt] at *; omega
  ntrans x y z h1 h2 := by
    unfold ltC at *
    have a := cfC_lt x y; have b := cfC_lt y z; have c := cfC_lt x z
    cases h3 : ltOf cfC x z
    · rfl
    · rw [h3] at c; rw [h1] at a; rw [h2] at b; simp at a b c; omega
theorem sortC_spec {w0 w : World} {os : List Ob} {i b cap : Nat} {l : List GClaim} (S : St w0 w os) (hi : os[i]? = some (rowOb fGClaim 39 (.slice (some ⟨b, 0, none⟩) l.length cap) l)) (hl : l.length ≤ 1000000) :
    CallsW Try.prog 34 #[.slice (some ⟨b, 0, none⟩) l.length cap, .func (.func 35) #[] #[]] w fun v w' =>
      v = .tuple #[] ∧ ∃ l', l'.Perm l ∧ l'.length = l.length ∧ l'.Pairwise (fun x y => ltC y x = false) ∧ St w0 w' (os.set i (rowOb fGClaim 39 (.slice (some ⟨b, 0, none⟩) l.length cap) l')) :=
  sort_row (D := fGClaim) (by decide) S hi fun hH hb => by
    have hcon := AnyQ.slices_SortFunc Ytcbidfedffegpaa.sortClaim 4 Try.isAgg39 Try.sizeOf39 GClaim.enc (fun _ => rfl) (fun x v hv => by simp [GClaim.enc] at hv; rcases hv with rfl | rfl | rfl | rfl <;> rfl) cfC swoC 35 #[] b 0 cap l.toArray w
      (enters_of Try.func35 (by kernel_rfl) rfl) (fun _ _ _ _ x y => Calls.mono (claims1_x x y _).out fun e w' ⟨v, he, hv, hG⟩ => ⟨by rw [he, hv], hG.grow⟩) hH hb (by simp; omega)
    exact hcon
theorem sortC_any {w0 w : World} {os : List Ob} {i : Nat} {v : Value} {l : List GClaim} (S : St w0 w os) (hi : os[i]? = some (rowOb fGClaim 39 v l)) (hl : l.length ≤ 1000000) :
    CallsW Try.prog 34 #[v, .func (.func 35) #[] #[]] w fun u w' =>
      u = .tuple #[] ∧ ∃ l', l'.Perm l ∧ l'.length = l.length ∧ l'.Pairwise (fun x y => ltC y x = false) ∧ St w0 w' (os.set i (rowOb fGClaim 39 v l')) := by
  have hh : w.ownsRow w0.heap.size 39 fGClaim.sz v l.length (fl fGClaim l) := S.ok _ (mem_of_get hi)
  rcases hh.2 with ⟨hv, h0⟩ | ⟨g', cap', cur, hv, _⟩
  · subst hv
    have e : l = [] := List.length_eq_zero_iff.1 h0
    subst e
    have hcon := AnyF.slices_SortFunc_none Ytcbidfedffegpaa.sortClaim none 0 (.func (.func 35) #[] #[]) w
    refine ⟨Calls.mono hcon fun e w' ⟨he, hw⟩ => ⟨_, he, rfl, [], List.Perm.refl _, rfl, List.Pairwise.nil, ?_⟩⟩
    subst hw
    have := (List.getElem?_eq_some_iff.1 hi)
    obtain ⟨h1, h2⟩ := this
    rw [← h2, List.set_getElem_self]; exact S
  · subst hv
    exact sortC_spec S hi hl
end Go.Proofs.Ytcbidfedffegpaa
