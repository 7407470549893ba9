import Derived.Test.YtgphmhpcaeiglaaR
namespace Go.Proofs.Ytgphmhpcaeiglaa
open Go Go.Gx Go.RowKit
set_option linter.unusedVariables false
set_option linter.unusedSimpArgs false

def mvR (n : Int) (r : GReading) : GReading := ⟨r.Local, r.Low + n, r.High + n⟩
theorem fold_min_min {α : Type} (f : α → Int) (l : List α) : ∀ a b : Int, l.foldl (fun m r => min m (f r)) (min a b) = min a (l.foldl (fun m r => min m (f r)) b) := by
  induction l with
  | nil => intro a b; rfl
  | cons x l ih => intro a b; rw [List.foldl_cons, List.foldl_cons, ← ih]; congr 1; omega
theorem fold_max_max {α : Type} (f : α → Int) (l : List α) : ∀ a b : Int, l.foldl (fun m r => max m (f r)) (max a b) = max a (l.foldl (fun m r => max m (f r)) b) := by
  induction l with
  | nil => intro a b; rfl
  | cons x l ih => intro a b; rw [List.foldl_cons, List.foldl_cons, ← ih]; congr 1; omega
theorem lowOf_mv (d x n : Int) (r : GReading) : lowOf d x (mvR n r) = lowOf d x r + n := by
  unfold lowOf mvR; simp only; (repeat' split) <;> omega
theorem highOf_mv (d x n : Int) (r : GReading) : highOf d x (mvR n r) = highOf d x r + n := by
  unfold highOf mvR; simp only; (repeat' split) <;> omega
theorem low_mv (d x n : Int) (l : List GReading) : ∀ z : Int, (l.map (mvR n)).foldl (fun m r => max m (lowOf d x r)) z = l.foldl (fun m r => max m (lowOf d x r)) (z - n) + n := by
  induction l with
  | nil => intro z; simp
  | cons a l ih => intro z; rw [List.map_cons, List.foldl_cons, List.foldl_cons, ih, lowOf_mv]; congr 2; omega
theorem high_mv (d x n : Int) (l : List GReading) : ∀ z : Int, (l.map (mvR n)).foldl (fun m r => min m (highOf d x r)) z = l.foldl (fun m r => min m (highOf d x r)) (z - n) + n := by
  induction l with
  | nil => intro z; simp
  | cons a l ih => intro z; rw [List.map_cons, List.foldl_cons, List.foldl_cons, ih, highOf_mv]; congr 2; omega
theorem fold_min_le {α : Type} {f : α → Int} {l : List α} {B : Int} (h : ∃ r ∈ l, f r ≤ B) : ∀ z : Int, l.foldl (fun m r => min m (f r)) z ≤ B := by
  induction l with
  | nil => obtain ⟨r, hr, _⟩ := h; cases hr
  | cons a l ih =>
    intro z
    rw [List.foldl_cons]
    obtain ⟨r, hr, hh⟩ := h
    rcases List.mem_cons.1 hr with rfl | hr
    · rw [show min z (f r) = min (f r) z by omega, fold_min_min]; omega
    · exact ih ⟨r, hr, hh⟩ _
theorem most_small {d n : Int} (d0 : 0 ≤ d) (d1 : d ≤ 100) (n0 : 0 ≤ n) (n1 : n ≤ 5000) : mostS d n ≤ 5600 := by
  have h := most_mono (d := d) (n := n) (m := 5000) d0 d1 n0 n1 (by omega)
  have h2 := most_drift (d := d) (e := 100) (n := 5000) d0 d1 (by omega) (by omega) (by omega)
  have : mostS 100 5000 = 5556 := by decide
  omega
theorem moves {d x n : Int} {l : List GReading} (hs : SmallC d l) (x0 : 0 ≤ x) (x1 : x < 5000) (n0 : 0 ≤ n) (n1 : n < 100000) (hne : l.length ≠ 0) (he : (atI d l x).2.2 = 0) (hf : (atI d (l.map (mvR n)) x).2.2 = 0) (hl : (atI d l x).1 ≠ 0) :
    (atI d (l.map (mvR n)) x).1 = (atI d l x).1 + n ∧ (atI d (l.map (mvR n)) x).2.1 = (atI d l x).2.1 + n := by
  obtain ⟨_, _, _, _, e1⟩ := atI_ok he
  obtain ⟨_, _, _, _, e2⟩ := atI_ok hf
  have hc := validC_ok hs.valid
  rw [e1] at hl
  rw [e1, e2]
  refine ⟨?_, ?_⟩
  · have h1 := low_mv d x n l 0
    have h2 := fold_max_max (lowOf d x) l 0 (0 - n)
    rw [show max 0 (0 - n) = 0 by omega] at h2
    have h0 : lowB d l x ≠ 0 := hl
    show lowB d (l.map (mvR n)) x = lowB d l x + n
    unfold lowB at h0 ⊢
    rw [h1]
    omega
  · have h1 := high_mv d x n l 10000000
    have h2 := fold_min_min (highOf d x) l (10000000 - n) 10000000
    rw [show min (10000000 - n) 10000000 = 10000000 - n by omega] at h2
    have hb : l.foldl (fun m r => min m (highOf d x r)) 10000000 ≤ 8700 := by
      refine fold_min_le ?_ _
      cases l with
      | nil => simp at hne
      | cons r l =>
        refine ⟨r, List.mem_cons_self .., ?_⟩
        have hm := hc.mem r (List.mem_cons_self ..)
        have hq := (hs.small r (List.mem_cons_self ..)).1
        unfold highOf
        split
        · have := least_most (d := d) (n := r.Local - x) hc.d0 hc.d1 (by omega) (by omega); omega
        · have := most_small (d := d) (n := x - r.Local) hc.d0 hc.d1 (by omega) (by omega); omega
    show highB d (l.map (mvR n)) x = highB d l x + n
    unfold highB
    rw [h1, h2]
    omega

set_option maxRecDepth 8000 in
set_option maxHeartbeats 2000000 in
theorem clockMoves_spec {dr st by0 local_ : Int} {vr va : Value} {rates : List Int} {ats : List GArr3Int} {w0 : World} (i0 : inI dr) (i1 : inI st) (hr : Rd (fInt .i64).ty w0 vr rates) (hrok : ∀ x ∈ rates, inI x) (hrl : rates.length ≤ maxLen)
    (ha : Rd fGArr3Int.ty w0 va ats) (haok : ∀ x ∈ ats, okQ3 x) (hal : ats.length ≤ maxLen) (i2 : inI by0) (i5 : inI local_) :
    CallsV Try.prog 8 #[.int .i64 dr, .int .i64 st, vr, va, .int .i64 by0, .int .i64 local_] w0 (.bool true) := by
  have S := St.start w0
  obtain ⟨n, hn⟩ : ∃ z, pickI by0 100000 = z := ⟨_, rfl⟩
  obtain ⟨x, hx⟩ : ∃ z, pickI local_ 5000 = z := ⟨_, rfl⟩
  have rn := pickI_range (c := by0) (n := 100000) (by omega)
  have rx := pickI_range (c := local_) (n := 5000) (by omega)
  rw [hn] at rn
  rw [hx] at rx
  have ix : inI x := by unfold inI; omega
  obtain ⟨d, hd⟩ : ∃ z, pickI dr 101 = z := ⟨_, rfl⟩
  have rd := pickI_range (c := dr) (n := 101) (by omega)
  rw [hd] at rd
  have id : inI d := by unfold inI; omega
  have hmade := fun w (hb : Below w0.heap.size w0 w) => made_spec (w0 := w) i0 i1 (hr.mono hb) hrl hrok (ha.mono hb) hal haok
  rw [hd] at hmade
  unfold inI at i2 i5
  refine CallsV.mk ?_
  refine calls_enter Try.func8 rfl Try.ntmps8 rfl ?_
  repeat' (first | refine WP_seq ?_ | refine WP_region ?_ | refine wl_nil ?_ | refine then_normal ?_ | refine WP_skip ?_ | refine WP_condF rfl ?_ | (refine g_move ?_; refine st_move rfl ?_) | (refine g_assign ?_; refine st_assign rfl ?_) | (refine g_un ?_; refine st_val rfl (r_not rfl) ?_) | (refine g_callV ?_; (refine st_callV rfl (r_call0 rfl) (sane_spec) ?_; intro w hb; replace S := S.grow hb; clear hb)))
  refine st_callR rfl (r_call4 rfl rfl rfl rfl rfl) (hmade _ S.below) ?_
  rintro _ w hb ⟨v, l, rfl, hnr, hsm⟩; replace S := S.new hb hnr; clear hb hnr
  obtain ⟨Av, cv, rfl⟩ := (S.rdRow (D := fGReading) (i := 0) rfl).len
  obtain ⟨vd0, vd1, vd2, vd3⟩ := valid_parts hsm.valid
  repeat' (first | refine WP_seq ?_ | refine WP_region ?_ | refine wl_nil ?_ | refine then_normal ?_ | refine WP_block ?_ | (refine g_move ?_; refine st_move rfl ?_) | (refine g_assign ?_; refine st_assign rfl ?_) | (refine g_build ?_; refine st_val rfl (bd24_0 rfl) ?_) | (refine g_fieldAddr ?_; refine st_val rfl (r_fieldAddrL rfl) ?_) | (refine g_load ?_; refine st_val rfl (r_loadVar (i := 1) S rfl rfl rfl) ?_) | (refine g_callV ?_; first | (refine st_callV rfl (r_call2 rfl rfl rfl) (pick_is hn (by omega) (by omega) (by omega)) ?_; intro w hb; replace S := S.grow hb; clear hb) | (refine st_callV rfl (r_call2 rfl rfl rfl) (pick_is hx (by omega) (by omega) (by omega)) ?_; intro w hb; replace S := S.grow hb; clear hb)) | (refine g_alloc ?_; refine st_valE rfl (r_alloc S) ?_; rintro _ w ⟨b, rfl, -, S'⟩; replace S := S'; clear S') | (refine g_store ?_; first | (refine st_skipE rfl (r_storeVar (i := 0) S rfl rfl rfl rfl (of_decide_eq_true rfl) (of_decide_eq_true rfl)) ?_; intro w S'; replace S := S'; clear S') | (refine st_skipE rfl (r_storeVar (i := 1) S rfl rfl rfl rfl (of_decide_eq_true rfl) (of_decide_eq_true rfl)) ?_; intro w S'; replace S := S'; clear S') | (refine st_skipE rfl (r_storeVar (i := 2) S rfl rfl rfl rfl (of_decide_eq_true rfl) (of_decide_eq_true rfl)) ?_; intro w S'; replace S := S'; clear S') | (refine st_skipE rfl (r_storeVar (i := 3) S rfl rfl rfl rfl (of_decide_eq_true rfl) (of_decide_eq_true rfl)) ?_; intro w S'; replace S := S'; clear S') | (refine st_skipE rfl (r_storeVar (i := 4) S rfl rfl rfl rfl (of_decide_eq_true rfl) (of_decide_eq_true rfl)) ?_; intro w S'; replace S := S'; clear S')))
  rename_i b14 _ _ _ _
  obtain ⟨b17, rfl⟩ : ∃ z, z = b := ⟨_, rfl⟩
  replace S := S.nilRow fGReading 48
  refine WP_loop (fun k σ w1 => ∃ (i : Int) (vM : Value), Has σ [(13, .bool true), (14, .pointer (some ⟨b14, 0, none⟩)), (15, .int .i64 n), (16, .int .i64 x), (17, .pointer (some ⟨b17, 0, none⟩)), (18, .int .i64 i)] ∧ St w0 w1 [rowOb fGReading 48 (.slice Av l.length cv) l, .var b14 24 [.int .i64 d, .slice Av l.length cv], .var b17 24 [.int .i64 d, vM], rowOb fGReading 48 vM ((l.take i.toNat).map (mvR n))] ∧ 0 ≤ i ∧ i ≤ l.length ∧ k = l.length - i.toNat) l.length
    ⟨0, _, ⟨rfl, rfl, rfl, rfl, rfl, rfl, trivial⟩, S, by omega, by omega, by omega⟩ ?_
  clear S
  rintro k σ w1 ⟨i, vM, hs', S, a0, a1, rfl⟩
  refine WP_has hs' ?_
  obtain ⟨AM, cM, rfl⟩ := (S.rdRow (D := fGReading) (i := 3) rfl).len
  by_cases hi : i < l.length
  · have hsn : (l.take (i + 1).toNat).map (mvR n) = (l.take i.toNat).map (mvR n) ++ [mvR n (nth l i)] := by rw [take_snoc a0 hi]; simp
    have hsm2 := hsm.small _ (nth_mem a0 hi)
    have hsm1 := (validC_ok hsm.valid).mem _ (nth_mem a0 hi)
    repeat' (first | refine WP_seq ?_ | refine WP_region ?_ | refine wl_nil ?_ | refine then_normal ?_ | refine WP_skip ?_ | refine WP_block ?_ | (refine g_move ?_; refine st_move rfl ?_) | (refine g_b_add ?_; (refine st_val rfl (r_addN rfl rfl ?_ ?_) ?_; (first | omega | (simp <;> omega)); (first | omega | (simp <;> omega)))) | (refine g_b_lss ?_; refine st_val rfl (r_lss rfl rfl) ?_) | (refine g_build ?_; refine st_val rfl (bd48_0_1_2 rfl rfl rfl) ?_) | (refine g_c_len ?_; refine st_val rfl (r_lenSlice rfl) ?_) | (refine g_fieldAddr ?_; refine st_val rfl (r_fieldAddrL rfl) ?_) | (refine g_indexAddr ?_; (refine st_val rfl (r_indexAddr (S.rdRow (D := fGReading) (i := 0) rfl) rfl rfl ?_ ?_) ?_; (first | omega | (simp <;> omega)); (first | omega | (simp <;> omega)))) | (refine g_load ?_; first | (refine st_val rfl (r_loadElem (S.rdRow (D := fGReading) (i := 0) rfl) rfl ?_ ?_) ?_; (first | omega | (simp <;> omega)); (first | omega | (simp <;> omega))) | refine st_val rfl (r_loadVar (i := 1) S rfl rfl rfl) ?_ | refine st_val rfl (r_loadVar (i := 2) S rfl rfl rfl) ?_ | refine st_val rfl (r_loadVar (i := 4) S rfl rfl rfl) ?_) | (refine g_alloc ?_; refine st_valE rfl (r_alloc S) ?_; rintro _ w ⟨b, rfl, -, S'⟩; replace S := S'; clear S') | (refine g_store ?_; first | (refine st_skipE rfl (r_storeVar (i := 0) S rfl rfl rfl rfl (of_decide_eq_true rfl) (of_decide_eq_true rfl)) ?_; intro w S'; replace S := S'; clear S') | (refine st_skipE rfl (r_storeVar (i := 1) S rfl rfl rfl rfl (of_decide_eq_true rfl) (of_decide_eq_true rfl)) ?_; intro w S'; replace S := S'; clear S') | (refine st_skipE rfl (r_storeVar (i := 2) S rfl rfl rfl rfl (of_decide_eq_true rfl) (of_decide_eq_true rfl)) ?_; intro w S'; replace S := S'; clear S') | (refine st_skipE rfl (r_storeVar (i := 3) S rfl rfl rfl rfl (of_decide_eq_true rfl) (of_decide_eq_true rfl)) ?_; intro w S'; replace S := S'; clear S') | (refine st_skipE rfl (r_storeVar (i := 4) S rfl rfl rfl rfl (of_decide_eq_true rfl) (of_decide_eq_true rfl)) ?_; intro w S'; replace S := S'; clear S')) | (refine WP_cond rfl (fun h => ?_) (fun h => ?_) <;> (fail_if_success (have hh : true = true := h)) <;> (try simp only [decide_eq_true_eq, decide_eq_false_iff_not, Bool.not_eq_true', Bool.not_eq_false', Int.not_lt, Int.not_le] at h) <;> (try (exfalso; omega))))
    refine st_valE rfl (r_litF (D := fGReading) [mvR n (nth l i)] (vA fGReading) S rfl rfl (fun _ => rfl) rfl (by decide) (by decide)) ?_
    rintro _ w ⟨bl, rfl, -, -, S'⟩; replace S := S'; clear S'
    skip
    refine st_valE rfl (r_appendRd (D := fGReading) (i := 3) S rfl (S.rdRow (D := fGReading) (i := 5) rfl) rfl rfl rfl (by decide) oneR (by simp; omega) (by simp; omega)) ?_
    rintro v' w ⟨-, S'⟩; replace S := S'; clear S'
    obtain ⟨A5, c5, rfl⟩ := (S.rdRow (D := fGReading) (i := 3) rfl).len
    repeat' (first | refine WP_region ?_ | refine wl_nil ?_ | refine then_normal ?_ | refine inB_normal ?_ | (refine g_move ?_; refine st_move rfl ?_) | (refine g_assign ?_; refine st_assign rfl ?_) | (refine g_b_add ?_; (refine st_val rfl (r_addN rfl rfl ?_ ?_) ?_; (first | omega | (simp <;> omega)); (first | omega | (simp <;> omega)))) | (refine g_fieldAddr ?_; refine st_val rfl (r_fieldAddrL rfl) ?_) | (refine g_store ?_; first | (refine st_skipE rfl (r_storeVar (i := 0) S rfl rfl rfl rfl (of_decide_eq_true rfl) (of_decide_eq_true rfl)) ?_; intro w S'; replace S := S'; clear S') | (refine st_skipE rfl (r_storeVar (i := 1) S rfl rfl rfl rfl (of_decide_eq_true rfl) (of_decide_eq_true rfl)) ?_; intro w S'; replace S := S'; clear S') | (refine st_skipE rfl (r_storeVar (i := 2) S rfl rfl rfl rfl (of_decide_eq_true rfl) (of_decide_eq_true rfl)) ?_; intro w S'; replace S := S'; clear S') | (refine st_skipE rfl (r_storeVar (i := 3) S rfl rfl rfl rfl (of_decide_eq_true rfl) (of_decide_eq_true rfl)) ?_; intro w S'; replace S := S'; clear S') | (refine st_skipE rfl (r_storeVar (i := 4) S rfl rfl rfl rfl (of_decide_eq_true rfl) (of_decide_eq_true rfl)) ?_; intro w S'; replace S := S'; clear S')))
    refine ⟨⟨_, ?_, i + 1, _, ⟨rfl, rfl, rfl, rfl, rfl, rfl, trivial⟩, (by rw [hsn]; exact S.keep [true, true, true, true, false, false]), by omega, by omega, rfl⟩⟩
    omega
  · rw [show i.toNat = l.length by omega, List.take_of_length_le (Nat.le_refl _)] at S
    have hl1 : l.length ≤ maxLen := by simp only [maxLen]; omega
    have hl2 : (l.map (mvR n)).length ≤ maxLen := by simp only [maxLen, List.length_map]; omega
    have ar1 := atI_range d l x
    have ar2 := atI_range d (l.map (mvR n)) x
    repeat' (first | refine WP_seq ?_ | refine WP_region ?_ | refine wl_nil ?_ | refine then_normal ?_ | refine then_exit ?_ | refine inB_here ?_ | refine then_ret ?_ | refine WP_ret ?_ | refine WP_skip ?_ | refine WP_exit ?_ | refine WP_condT rfl ?_ | (refine g_guard ?_; refine st_off rfl ?_) | (refine g_move ?_; refine st_move rfl ?_) | (refine g_assign ?_; refine st_assign rfl ?_) | (refine g_pick ?_; first | refine st_pickT rfl rfl ?_ | refine st_pickF rfl rfl ?_) | (refine g_b_add ?_; (refine st_val rfl (r_addN rfl rfl ?_ ?_) ?_; (first | omega | (simp <;> omega)); (first | omega | (simp <;> omega)))) | (refine g_b_eql ?_; refine st_val rfl (r_eql rfl rfl) ?_) | (refine g_b_neq ?_; refine st_val rfl (r_neq rfl rfl) ?_) | (refine g_b_lss ?_; refine st_val rfl (r_lss rfl rfl) ?_) | (refine g_extract ?_; refine st_val rfl (r_extract rfl rfl) ?_) | (refine g_c_len ?_; refine st_val rfl (r_lenSlice rfl) ?_) | (refine g_fieldAddr ?_; refine st_val rfl (r_fieldAddrL rfl) ?_) | (refine g_load ?_; first | refine st_val rfl (r_loadVar (i := 1) S rfl rfl rfl) ?_ | refine st_val rfl (r_loadVarA (i := 1) S rfl rfl rfl rfl) ?_ | refine st_val rfl (r_loadVarA (i := 2) S rfl rfl rfl rfl) ?_) | (refine g_callV ?_; first | (refine st_callV rfl (r_call2 rfl rfl rfl) (at_spec (S.rdRow (D := fGReading) (i := 0) rfl) hl1 id ix) ?_; intro w hb; replace S := S.grow hb; clear hb) | (refine st_callV rfl (r_call2 rfl rfl rfl) (at_spec (S.rdRow (D := fGReading) (i := 3) rfl) hl2 id ix) ?_; intro w hb; replace S := S.grow hb; clear hb)) | (refine wl_split rfl rfl (fun h => ?_) (fun h => ?_) <;> (fail_if_success (have hh : true = true := h)) <;> (try simp only [decide_eq_true_eq, decide_eq_false_iff_not, Bool.not_eq_true', Bool.not_eq_false', Int.not_lt, Int.not_le] at h) <;> (try (exfalso; omega))) | (refine WP_cond rfl (fun h => ?_) (fun h => ?_) <;> (fail_if_success (have hh : true = true := h)) <;> (try simp only [decide_eq_true_eq, decide_eq_false_iff_not, Bool.not_eq_true', Bool.not_eq_false', Int.not_lt, Int.not_le] at h) <;> (try (exfalso; omega))))
    all_goals first
      | exact end1 rfl rfl ⟨rfl, S.below⟩
      | (have g := moves hsm (x := x) (n := n) (by omega) (by omega) (by omega) (by omega) (by omega) (by omega) (by omega) (by omega); refine end1 rfl rfl ⟨rb ?_, S.below⟩; simp; omega)
      | (exfalso; have g := moves hsm (x := x) (n := n) (by omega) (by omega) (by omega) (by omega) (by omega) (by omega) (by omega) (by omega); omega)
      | trace_state
end Go.Proofs.Ytgphmhpcaeiglaa
