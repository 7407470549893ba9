import Derived.Test.YtgphmhpcaeiglaaM
namespace Go.Proofs.Ytgphmhpcaeiglaa
open Go Go.Gx Go.RowKit
set_option linter.unusedVariables false
set_option linter.unusedSimpArgs false

def lastZ : Int → List GReading → Int
  | z, [] => z
  | _, a :: l => lastZ a.Local l
theorem sortedC_snoc (l : List GReading) (r : GReading) : ∀ z, sortedC z (l ++ [r]) = (sortedC z l && okB (lastZ z l) r) := by
  induction l with
  | nil => intro z; simp [sortedC, lastZ]
  | cons a l ih => intro z; simp only [List.cons_append, sortedC, lastZ, ih, Bool.and_assoc]
theorem lastZ_nth (l : List GReading) : ∀ z, l ≠ [] → lastZ z l = (nth l (l.length - 1)).Local := by
  induction l with
  | nil => intro z h; exact absurd rfl h
  | cons a l ih =>
    intro z _
    cases l with
    | nil => rfl
    | cons b l =>
      rw [lastZ, ih _ (by simp)]
      unfold nth
      congr 1
      simp
theorem lastZ_prev (l : List GReading) : lastZ (-1) l = prevL l l.length := by
  unfold prevL
  cases l with
  | nil => rfl
  | cons a l => rw [if_neg (by simp; omega), lastZ_nth _ _ (by simp)]
def hitsLt (m : List GArr3Int) (t : Int) : Nat := m.countP fun x => decide (pickI x.a0 3000 < t)
def hitsEq (m : List GArr3Int) (t : Int) : Nat := m.countP fun x => decide (pickI x.a0 3000 = t)
theorem hits_next (m : List GArr3Int) (t : Int) : hitsLt m (t + 1) = hitsLt m t + hitsEq m t := by
  unfold hitsLt hitsEq
  induction m with
  | nil => rfl
  | cons a r ih =>
    simp only [List.countP_cons, ih]
    rcases Int.lt_trichotomy (pickI a.a0 3000) t with h | h | h
    · simp [h, show pickI a.a0 3000 < t + 1 by omega, show ¬ pickI a.a0 3000 = t by omega]; omega
    · simp [h, show t < t + 1 by omega]; omega
    · simp [show ¬ pickI a.a0 3000 < t by omega, show ¬ pickI a.a0 3000 < t + 1 by omega, show ¬ pickI a.a0 3000 = t by omega]
theorem hitsLt_le (m : List GArr3Int) (t : Int) : hitsLt m t ≤ m.length := List.countP_le_length
theorem hitsEq_next {m : List GArr3Int} {i t : Int} (h0 : 0 ≤ i) (h : i < m.length) : hitsEq (m.take (i + 1).toNat) t = hitsEq (m.take i.toNat) t + (if pickI (nth m i).a0 3000 = t then 1 else 0) := by
  rw [take_snoc h0 h]; unfold hitsEq; rw [List.countP_append]; simp
/-- What Made keeps to. -/
structure MadeI (l : List GReading) (n : Nat) : Prop where
  len : l.length ≤ n
  sorted : sortedC (-1) l = true
  small : ∀ r ∈ l, r.High ≤ 3100 ∧ r.Local ≤ 7000
theorem MadeI.mono {l : List GReading} {n n' : Nat} (h : MadeI l n) (hn : n ≤ n') : MadeI l n' := ⟨by have := h.len; omega, h.sorted, h.small⟩
theorem MadeI.add {l : List GReading} {n : Nat} (h : MadeI l n) {r : GReading} (h1 : prevL l l.length < r.Local) (h2 : r.Local ≤ 7000) (h3 : 0 ≤ r.Low) (h4 : r.Low ≤ r.High) (h5 : r.High ≤ 3100) : MadeI (l ++ [r]) (n + 1) := by
  refine ⟨by have := h.len; simp; omega, ?_, fun x hx => ?_⟩
  · rw [sortedC_snoc, h.sorted, lastZ_prev, Bool.true_and, okB_iff]
    exact ⟨h1, by omega, h3, h4, by omega⟩
  · rcases List.mem_append.1 hx with hx | hx
    · exact h.small x hx
    · rw [List.mem_singleton.1 hx]; exact ⟨h5, h2⟩
structure SmallC (d : Int) (l : List GReading) : Prop where
  valid : validC d l = true
  small : ∀ r ∈ l, r.High ≤ 3100 ∧ r.Local ≤ 7000
theorem MadeI.fin {l : List GReading} {n : Nat} (h : MadeI l n) (hn : n ≤ 12) {d : Int} (d0 : 0 ≤ d) (d1 : d ≤ 100) : SmallC d l := by
  refine ⟨?_, h.small⟩
  have := h.len
  unfold validC
  rw [h.sorted]; simp; omega
def okQ3 (x : GArr3Int) : Prop := inI x.a0 ∧ inI x.a1 ∧ inI x.a2

set_option maxRecDepth 4000 in
set_option maxHeartbeats 1000000 in
theorem made_spec {dr st : Int} {vr va : Value} {rates : List Int} {ats : List GArr3Int} {w0 : World} (hd : inI dr) (hs0 : inI st) (hr : Rd (fInt .i64).ty w0 vr rates) (hrl : rates.length ≤ maxLen) (hrok : ∀ x ∈ rates, inI x)
    (ha : Rd fGArr3Int.ty w0 va ats) (hal : ats.length ≤ maxLen) (haok : ∀ x ∈ ats, okQ3 x) :
    CallsR Try.prog 15 #[.int .i64 dr, .int .i64 st, vr, va] w0 fun u w' => ∃ v l, u = .agg #[.int .i64 (pickI dr 101), v] ∧ NewRow fGReading 48 w0 w' v l ∧ SmallC (pickI dr 101) l := by
  have S := St.start w0
  obtain ⟨A, c, rfl⟩ := ha.len
  have hd' := hd
  unfold inI at hd
  obtain ⟨d, hpd⟩ : ∃ x, pickI dr 101 = x := ⟨_, rfl⟩
  have rd := pickI_range (c := dr) (n := 101) (by omega)
  rw [hpd] at rd ⊢
  obtain ⟨m, hm⟩ : ∃ m, m = ats.take 12 := ⟨_, rfl⟩
  have hml : (m.length : Int) ≤ 12 ∧ (m.length : Int) ≤ ats.length ∧ ((m.length : Int) = 12 ∨ (m.length : Int) = ats.length) := by rw [hm, List.length_take]; omega
  have hmn : ∀ i : Int, 0 ≤ i → i < m.length → nth m i = nth ats i := fun i i0 i1 => by
    have h1 := nth_get i0 i1
    rw [hm, List.getElem?_take_of_lt (by omega)] at h1
    rw [nth_get i0 (by omega)] at h1
    rw [← hm] at h1
    exact (Option.some.inj h1).symm
  refine CallsR.mk ?_
  refine calls_enter Try.func15 rfl Try.ntmps15 rfl ?_
  repeat' (first | refine WP_seq ?_ | refine WP_region ?_ | refine wl_nil ?_ | refine then_normal ?_ | refine WP_block ?_ | (refine g_move ?_; refine st_move rfl ?_) | (refine g_assign ?_; refine st_assign rfl ?_) | (refine g_build ?_; refine st_val rfl (bd24_0 rfl) ?_) | (refine g_callV ?_; (refine st_callV rfl (r_call2 rfl rfl rfl) (pickC_is hpd (by omega) (by omega) (by omega)) ?_; intro w hb; replace S := S.grow hb; clear hb)) | (refine g_alloc ?_; refine st_valE rfl (r_alloc S) ?_; rintro _ w ⟨b, rfl, -, S'⟩; replace S := S'; clear S') | (refine g_store ?_; first | (refine st_skipE rfl (r_storeVar (i := 0) S rfl rfl rfl rfl (of_decide_eq_true rfl) (of_decide_eq_true rfl)) ?_; intro w S'; replace S := S'; clear S') | (refine st_skipE rfl (r_storeVar (i := 1) S rfl rfl rfl rfl (of_decide_eq_true rfl) (of_decide_eq_true rfl)) ?_; intro w S'; replace S := S'; clear S') | (refine st_skipE rfl (r_storeVar (i := 2) S rfl rfl rfl rfl (of_decide_eq_true rfl) (of_decide_eq_true rfl)) ?_; intro w S'; replace S := S'; clear S')))
  rename_i wa b8 wb wc
  obtain ⟨b9, rfl⟩ : ∃ z, z = b := ⟨_, rfl⟩
  replace S := S.nilRow fGReading 48
  refine WP_loop (fun k σ w1 => ∃ (t : Int) (v : Value) (l : List GReading), Has σ [(0, .int .i64 dr), (1, .int .i64 st), (2, vr), (3, .slice A ats.length c), (8, .pointer (some ⟨b8, 0, none⟩)), (9, .pointer (some ⟨b9, 0, none⟩)), (10, .int .i64 t)] ∧ St w0 w1 [.var b8 24 [.int .i64 0, .slice none 0 0], .var b9 24 [.int .i64 d, v], rowOb fGReading 48 v l] ∧ 0 ≤ t ∧ t ≤ 3000 ∧ k = 3000 - t.toNat ∧ MadeI l (hitsLt m t)) 3000
    ⟨0, _, [], ⟨rfl, rfl, rfl, rfl, rfl, rfl, rfl, trivial⟩, S, by omega, by omega, by omega, ⟨by simp, rfl, fun r hr => by cases hr⟩⟩ ?_
  clear S
  rintro k σ w1 ⟨t, v, l, hs, S, t0, t1, rfl, hI⟩
  refine WP_has hs ?_
  by_cases ht : t < 3000
  · repeat' (first | refine WP_seq ?_ | refine WP_region ?_ | refine wl_nil ?_ | refine then_normal ?_ | refine WP_skip ?_ | refine WP_block ?_ | (refine g_move ?_; refine st_move rfl ?_) | (refine g_assign ?_; refine st_assign rfl ?_) | (refine g_b_lss ?_; refine st_val rfl (r_lss rfl rfl) ?_) | (refine WP_cond rfl (fun h => ?_) (fun h => ?_) <;> (fail_if_success (have hh : true = true := h)) <;> (try simp only [decide_eq_true_eq, decide_eq_false_iff_not, Bool.not_eq_true', Bool.not_eq_false', Int.not_lt, Int.not_le] at h) <;> (try (exfalso; omega))))
    refine WP_loop (fun k σ w1 => ∃ (i : Int) (v : Value) (l : List GReading), Has σ [(0, .int .i64 dr), (1, .int .i64 st), (2, vr), (3, .slice A ats.length c), (8, .pointer (some ⟨b8, 0, none⟩)), (9, .pointer (some ⟨b9, 0, none⟩)), (10, .int .i64 t), (11, .int .i64 i)] ∧ St w0 w1 [.var b8 24 [.int .i64 0, .slice none 0 0], .var b9 24 [.int .i64 d, v], rowOb fGReading 48 v l] ∧ 0 ≤ i ∧ i ≤ m.length ∧ k = 12 - i.toNat ∧ MadeI l (hitsLt m t + hitsEq (m.take i.toNat) t)) 12
      ⟨0, v, l, ⟨rfl, rfl, rfl, rfl, rfl, rfl, rfl, rfl, trivial⟩, S, by omega, by omega, by omega, hI.mono (by omega)⟩ ?_
    clear S hs hI l v
    rintro k σ w1 ⟨i, v, l, hs, S, a0, a1, rfl, hI⟩
    refine WP_has hs ?_
    have hll := hI.len
    have hl1 := hitsLt_le m t
    have hl2 : hitsEq (m.take i.toNat) t ≤ (m.take i.toNat).length := List.countP_le_length
    rw [List.length_take] at hl2
    obtain ⟨Av, cv, rfl⟩ := (S.rdRow (D := fGReading) (i := 2) rfl).len
    by_cases hi : i < m.length
    · have hx := haok _ (nth_mem (i := i) a0 (by omega))
      have hq := hitsEq_next (t := t) a0 hi
      rw [hmn i a0 hi] at hq
      unfold okQ3 inI at hx
      obtain ⟨x0, x1, x2⟩ := hx
      obtain ⟨p0, hp0⟩ : ∃ x, pickI (nth ats i).a0 3000 = x := ⟨_, rfl⟩
      obtain ⟨p1, hp1⟩ : ∃ x, pickI (nth ats i).a1 51 = x := ⟨_, rfl⟩
      obtain ⟨p2, hp2⟩ : ∃ x, pickI (nth ats i).a2 51 = x := ⟨_, rfl⟩
      have r1 := pickI_range (c := (nth ats i).a1) (n := 51) (by omega)
      have r2 := pickI_range (c := (nth ats i).a2) (n := 51) (by omega)
      rw [hp1] at r1
      rw [hp2] at r2
      rw [hp0] at hq
      have hsb := shown_bound (dr := dr) (st := st) (r := rates) t0
      by_cases he : p0 = t
      · rw [if_pos he] at hq
        repeat' (first | refine WP_seq ?_ | refine WP_region ?_ | refine wl_nil ?_ | refine then_normal ?_ | refine inB_normal ?_ | refine WP_skip ?_ | refine WP_block ?_ | refine WP_condT rfl ?_ | refine WP_drawGrow 23 24 (by kernel_rfl) (by decide +kernel) ?_ | refine wg_nil ?_ | (refine wg_val rfl (r_alloc S) (by rintro _ _ ⟨b, -, h, -⟩; exact h) ?_; rintro _ w ⟨b, rfl, -, S'⟩ w hb; replace S := S'.grow hb; clear S' hb) | refine WP_draw (by kernel_rfl) (by kernel_rfl) ?_ | (refine ql_nil ?_; intro w hb; replace S := S.grow hb; clear hb) | (refine g_move ?_; refine st_move rfl ?_) | (refine g_assign ?_; refine st_assign rfl ?_) | (refine g_pick ?_; refine st_pickT rfl rfl ?_) | (refine g_b_add ?_; (refine st_val rfl (r_addN rfl rfl ?_ ?_) ?_; (first | omega | (simp <;> omega)); (first | omega | (simp <;> omega)))) | (refine g_b_neq ?_; refine st_val rfl (r_neq rfl rfl) ?_) | (refine g_b_lss ?_; refine st_val rfl (r_lss rfl rfl) ?_) | (refine g_c_len ?_; refine st_val rfl (r_lenSlice rfl) ?_) | (refine g_fieldAddr ?_; refine st_val rfl (r_fieldAddrL rfl) ?_) | (refine g_indexAddr ?_; first | (refine st_val rfl (r_indexAddr (ha.mono S.below) rfl rfl ?_ ?_) ?_; (first | omega | (simp <;> omega)); (first | omega | (simp <;> omega))) | (refine st_val rfl (r_indexAddrArrE rfl rfl ?_ ?_) ?_; (first | omega | (simp <;> omega)); (first | omega | (simp <;> omega)))) | (refine g_load ?_; first | (refine st_val rfl (r_loadElem1 (ha.mono S.below) rfl ?_ ?_ rfl) ?_; (first | omega | (simp <;> omega)); (first | omega | (simp <;> omega))) | refine st_val rfl (r_loadVar (i := 1) S rfl rfl rfl) ?_ | refine st_val rfl (r_loadVarA (i := 3) S rfl rfl rfl rfl) ?_) | (refine g_callV ?_; (refine st_callV rfl (r_call2 rfl rfl rfl) (pickC_is hp0 (by omega) (by omega) (by omega)) ?_; intro w hb; replace S := S.grow hb; clear hb)) | (refine gq_guard ?_; refine q_off rfl ?_) | (refine gq_move ?_; refine q_move rfl ?_) | (refine gq_pick ?_; first | refine q_pickT rfl rfl ?_ | refine q_pickF rfl rfl ?_) | (refine gq_b_add ?_; (refine q_val rfl (fun w' hb => r_addN rfl rfl ?_ ?_) ?_; (first | omega | (simp <;> omega)); (first | omega | (simp <;> omega)))) | (refine gq_b_sub ?_; (refine q_val rfl (fun w' hb => r_subN rfl rfl ?_ ?_) ?_; (first | omega | (simp <;> omega)); (first | omega | (simp <;> omega)))) | (refine gq_b_eql ?_; refine q_val rfl (fun w' hb => r_eql rfl rfl) ?_) | (refine gq_b_lss ?_; refine q_val rfl (fun w' hb => r_lss rfl rfl) ?_) | (refine gq_build ?_; refine q_val rfl (fun w' hb => bd48_0_1_2 rfl rfl rfl) ?_) | (refine gq_c_max ?_; refine q_val rfl (fun w' hb => r_max2 rfl rfl) ?_) | (refine gq_fieldAddr ?_; first | refine q_val rfl (fun w' hb => r_fieldAddrL rfl) ?_ | refine q_val rfl (fun w' hb => r_fieldAddr rfl) ?_) | (refine gq_indexAddr ?_; first | (refine q_val rfl (fun w' hb => r_indexAddr (ha.mono (S.grow hb).below) rfl rfl ?_ ?_) ?_; (first | omega | (simp <;> omega)); (first | omega | (simp <;> omega))) | (refine q_val rfl (fun w' hb => r_indexAddr ((S.grow hb).rdRow (D := fGReading) (i := 2) rfl) rfl rfl ?_ ?_) ?_; (first | omega | (simp <;> omega)); (first | omega | (simp <;> omega))) | (refine q_val rfl (fun w' hb => r_indexAddrArrE rfl rfl ?_ ?_) ?_; (first | omega | (simp <;> omega)); (first | omega | (simp <;> omega)))) | (refine gq_load ?_; first | (refine q_val rfl (fun w' hb => r_loadElemF (ha.mono (S.grow hb).below) rfl ?_ ?_ rfl) ?_; (first | omega | (simp <;> omega)); (first | omega | (simp <;> omega))) | (refine q_val rfl (fun w' hb => r_loadElem1 ((S.grow hb).rdRow (D := fGReading) (i := 2) rfl) rfl ?_ ?_ rfl) ?_; (first | omega | (simp <;> omega)); (first | omega | (simp <;> omega))) | refine q_val rfl (fun w' hb => r_loadVar (i := 1) (S.grow hb) rfl rfl rfl) ?_ | refine q_val rfl (fun w' hb => r_loadVar (i := 3) (S.grow hb) rfl rfl rfl) ?_) | (refine gq_callV ?_; first | refine q_callV rfl (fun w' hb => r_call2 rfl rfl rfl) (fun w' hb => pickC_is hp1 (by omega) (by omega) (by omega)) ?_ | refine q_callV rfl (fun w' hb => r_call2 rfl rfl rfl) (fun w' hb => pickC_is hp2 (by omega) (by omega) (by omega)) ?_ | refine q_callV rfl (fun w' hb => r_call4 rfl rfl rfl rfl rfl) (fun w' hb => shown_spec (hr.mono (S.grow hb).below) hrl hrok hd' hs0 t0 (by omega)) ?_) | (refine g_store ?_; first | (refine st_skipE rfl (r_storeVar (i := 0) S rfl rfl rfl rfl (of_decide_eq_true rfl) (of_decide_eq_true rfl)) ?_; intro w S'; replace S := S'; clear S') | (refine st_skipE rfl (r_storeVar (i := 1) S rfl rfl rfl rfl (of_decide_eq_true rfl) (of_decide_eq_true rfl)) ?_; intro w S'; replace S := S'; clear S') | (refine st_skipE rfl (r_storeVar (i := 2) S rfl rfl rfl rfl (of_decide_eq_true rfl) (of_decide_eq_true rfl)) ?_; intro w S'; replace S := S'; clear S') | (refine st_skipE rfl (r_storeVar (i := 3) S rfl rfl rfl rfl (of_decide_eq_true rfl) (of_decide_eq_true rfl)) ?_; intro w S'; replace S := S'; clear S')) | (refine wl_split rfl rfl (fun h => ?_) (fun h => ?_) <;> (fail_if_success (have hh : true = true := h)) <;> (try simp only [decide_eq_true_eq, decide_eq_false_iff_not, Bool.not_eq_true', Bool.not_eq_false', Int.not_lt, Int.not_le] at h) <;> (try (exfalso; omega))) | (refine ql_split rfl rfl (fun h => ?_) (fun h => ?_) <;> (fail_if_success (have hh : true = true := h)) <;> (try simp only [decide_eq_true_eq, decide_eq_false_iff_not, Bool.not_eq_true', Bool.not_eq_false', Int.not_lt, Int.not_le] at h) <;> (try (exfalso; omega))) | (refine WP_cond rfl (fun h => ?_) (fun h => ?_) <;> (fail_if_success (have hh : true = true := h)) <;> (try simp only [decide_eq_true_eq, decide_eq_false_iff_not, Bool.not_eq_true', Bool.not_eq_false', Int.not_lt, Int.not_le] at h) <;> (try (exfalso; omega))))
        · refine st_valE rfl (r_litF (D := fGReading) [⟨shownI dr st rates t, max (t - p1) 0, t + p2⟩] (vA fGReading) S rfl rfl (fun _ => rfl) rfl (by decide) (by decide)) ?_
          rintro _ w ⟨bl, rfl, -, -, S'⟩; replace S := S'; clear S'
          skip
          refine st_valE rfl (r_appendRd (D := fGReading) (i := 2) S rfl (S.rdRow (D := fGReading) (i := 4) rfl) rfl rfl rfl (by decide) (fun x u hu => by simp [fGReading, GReading.enc] at hu; rcases hu with rfl | rfl | rfl <;> rfl) (by simp; omega) (by simp; omega)) ?_
          rintro v' w ⟨-, S'⟩; replace S := S'; clear S'
          obtain ⟨A6, c6, rfl⟩ := (S.rdRow (D := fGReading) (i := 2) rfl).len
          repeat' (first | refine WP_region ?_ | refine wl_nil ?_ | refine then_normal ?_ | refine inB_normal ?_ | (refine g_move ?_; refine st_move rfl ?_) | (refine g_assign ?_; refine st_assign rfl ?_) | (refine g_b_add ?_; (refine st_val rfl (r_addN rfl rfl ?_ ?_) ?_; (first | omega | (simp <;> omega)); (first | omega | (simp <;> omega)))) | (refine g_fieldAddr ?_; refine st_val rfl (r_fieldAddrL rfl) ?_) | (refine g_store ?_; first | (refine st_skipE rfl (r_storeVar (i := 0) S rfl rfl rfl rfl (of_decide_eq_true rfl) (of_decide_eq_true rfl)) ?_; intro w S'; replace S := S'; clear S') | (refine st_skipE rfl (r_storeVar (i := 1) S rfl rfl rfl rfl (of_decide_eq_true rfl) (of_decide_eq_true rfl)) ?_; intro w S'; replace S := S'; clear S') | (refine st_skipE rfl (r_storeVar (i := 2) S rfl rfl rfl rfl (of_decide_eq_true rfl) (of_decide_eq_true rfl)) ?_; intro w S'; replace S := S'; clear S')))
          refine ⟨⟨_, ?_, i + 1, _, _, ⟨rfl, rfl, rfl, rfl, rfl, rfl, rfl, rfl, trivial⟩, S.keep [true, true, true, false, false], by omega, by omega, rfl, (hI.add (r := ⟨shownI dr st rates t, max (t - p1) 0, t + p2⟩) ?_ (by simp; omega) (by simp; omega) (by simp; omega) (by simp; omega)).mono (by omega)⟩⟩
          · omega
          · have e : prevL l l.length = -1 := by unfold prevL; rw [if_pos (by omega)]
            rw [e]; simp; omega
        · refine st_valE rfl (r_litF (D := fGReading) [⟨shownI dr st rates t, max (t - p1) 0, t + p2⟩] (vA fGReading) S rfl rfl (fun _ => rfl) rfl (by decide) (by decide)) ?_
          rintro _ w ⟨bl, rfl, -, -, S'⟩; replace S := S'; clear S'
          skip
          refine st_valE rfl (r_appendRd (D := fGReading) (i := 2) S rfl (S.rdRow (D := fGReading) (i := 4) rfl) rfl rfl rfl (by decide) (fun x u hu => by simp [fGReading, GReading.enc] at hu; rcases hu with rfl | rfl | rfl <;> rfl) (by simp; omega) (by simp; omega)) ?_
          rintro v' w ⟨-, S'⟩; replace S := S'; clear S'
          obtain ⟨A6, c6, rfl⟩ := (S.rdRow (D := fGReading) (i := 2) rfl).len
          repeat' (first | refine WP_region ?_ | refine wl_nil ?_ | refine then_normal ?_ | refine inB_normal ?_ | (refine g_move ?_; refine st_move rfl ?_) | (refine g_assign ?_; refine st_assign rfl ?_) | (refine g_b_add ?_; (refine st_val rfl (r_addN rfl rfl ?_ ?_) ?_; (first | omega | (simp <;> omega)); (first | omega | (simp <;> omega)))) | (refine g_fieldAddr ?_; refine st_val rfl (r_fieldAddrL rfl) ?_) | (refine g_store ?_; first | (refine st_skipE rfl (r_storeVar (i := 0) S rfl rfl rfl rfl (of_decide_eq_true rfl) (of_decide_eq_true rfl)) ?_; intro w S'; replace S := S'; clear S') | (refine st_skipE rfl (r_storeVar (i := 1) S rfl rfl rfl rfl (of_decide_eq_true rfl) (of_decide_eq_true rfl)) ?_; intro w S'; replace S := S'; clear S') | (refine st_skipE rfl (r_storeVar (i := 2) S rfl rfl rfl rfl (of_decide_eq_true rfl) (of_decide_eq_true rfl)) ?_; intro w S'; replace S := S'; clear S')))
          refine ⟨⟨_, ?_, i + 1, _, _, ⟨rfl, rfl, rfl, rfl, rfl, rfl, rfl, rfl, trivial⟩, S.keep [true, true, true, false, false], by omega, by omega, rfl, (hI.add (r := ⟨shownI dr st rates t, max (t - p1) 0, t + p2⟩) ?_ (by simp; omega) (by simp; omega) (by simp; omega) (by simp; omega)).mono (by omega)⟩⟩
          · omega
          · have e : prevL l l.length = (nth l (l.length - 1)).Local := by unfold prevL; rw [if_neg (by omega)]
            rw [e]; exact h
        · refine ⟨⟨_, ?_, i + 1, _, l, ⟨rfl, rfl, rfl, rfl, rfl, rfl, rfl, rfl, trivial⟩, S.keep [true, true, true, false], by omega, by omega, rfl, hI.mono (by omega)⟩⟩
          omega
      · rw [if_neg he] at hq
        repeat' (first | refine WP_seq ?_ | refine WP_region ?_ | refine wl_nil ?_ | refine then_normal ?_ | refine then_exit ?_ | refine inB_here ?_ | refine WP_skip ?_ | refine WP_exit ?_ | refine WP_block ?_ | (refine g_move ?_; refine st_move rfl ?_) | (refine g_assign ?_; refine st_assign rfl ?_) | (refine g_pick ?_; refine st_pickT rfl rfl ?_) | (refine g_b_add ?_; (refine st_val rfl (r_addN rfl rfl ?_ ?_) ?_; (first | omega | (simp <;> omega)); (first | omega | (simp <;> omega)))) | (refine g_b_neq ?_; refine st_val rfl (r_neq rfl rfl) ?_) | (refine g_b_lss ?_; refine st_val rfl (r_lss rfl rfl) ?_) | (refine g_c_len ?_; refine st_val rfl (r_lenSlice rfl) ?_) | (refine g_indexAddr ?_; first | (refine st_val rfl (r_indexAddr (ha.mono S.below) rfl rfl ?_ ?_) ?_; (first | omega | (simp <;> omega)); (first | omega | (simp <;> omega))) | (refine st_val rfl (r_indexAddrArrE rfl rfl ?_ ?_) ?_; (first | omega | (simp <;> omega)); (first | omega | (simp <;> omega)))) | (refine g_load ?_; (refine st_val rfl (r_loadElem1 (ha.mono S.below) rfl ?_ ?_ rfl) ?_; (first | omega | (simp <;> omega)); (first | omega | (simp <;> omega)))) | (refine g_callV ?_; (refine st_callV rfl (r_call2 rfl rfl rfl) (pickC_is hp0 (by omega) (by omega) (by omega)) ?_; intro w hb; replace S := S.grow hb; clear hb)) | (refine wl_split rfl rfl (fun h => ?_) (fun h => ?_) <;> (fail_if_success (have hh : true = true := h)) <;> (try simp only [decide_eq_true_eq, decide_eq_false_iff_not, Bool.not_eq_true', Bool.not_eq_false', Int.not_lt, Int.not_le] at h) <;> (try (exfalso; omega))) | (refine WP_cond rfl (fun h => ?_) (fun h => ?_) <;> (fail_if_success (have hh : true = true := h)) <;> (try simp only [decide_eq_true_eq, decide_eq_false_iff_not, Bool.not_eq_true', Bool.not_eq_false', Int.not_lt, Int.not_le] at h) <;> (try (exfalso; omega))))
        refine ⟨⟨_, ?_, i + 1, _, l, ⟨rfl, rfl, rfl, rfl, rfl, rfl, rfl, rfl, trivial⟩, S.keep [true, true, true], by omega, by omega, rfl, hI.mono (by omega)⟩⟩
        omega
    · repeat' (first | refine WP_seq ?_ | refine WP_region ?_ | refine wl_nil ?_ | refine then_normal ?_ | refine inB_normal ?_ | refine then_exit ?_ | refine inB_here ?_ | refine WP_exit ?_ | refine WP_condF rfl ?_ | (refine g_guard ?_; refine st_off rfl ?_) | (refine g_move ?_; refine st_move rfl ?_) | (refine g_assign ?_; refine st_assign rfl ?_) | (refine g_pick ?_; first | refine st_pickT rfl rfl ?_ | refine st_pickF rfl rfl ?_) | (refine g_b_add ?_; (refine st_val rfl (r_addN rfl rfl ?_ ?_) ?_; (first | omega | (simp <;> omega)); (first | omega | (simp <;> omega)))) | (refine g_b_lss ?_; refine st_val rfl (r_lss rfl rfl) ?_) | (refine g_c_len ?_; refine st_val rfl (r_lenSlice rfl) ?_) | (refine wl_split rfl rfl (fun h => ?_) (fun h => ?_) <;> (fail_if_success (have hh : true = true := h)) <;> (try simp only [decide_eq_true_eq, decide_eq_false_iff_not, Bool.not_eq_true', Bool.not_eq_false', Int.not_lt, Int.not_le] at h) <;> (try (exfalso; omega))) | (refine WP_cond rfl (fun h => ?_) (fun h => ?_) <;> (fail_if_success (have hh : true = true := h)) <;> (try simp only [decide_eq_true_eq, decide_eq_false_iff_not, Bool.not_eq_true', Bool.not_eq_false', Int.not_lt, Int.not_le] at h) <;> (try (exfalso; omega))))
      all_goals (refine ⟨⟨_, ?_, t + 1, _, l, ⟨rfl, rfl, rfl, rfl, rfl, rfl, rfl, trivial⟩, S.keep [true, true, true], by omega, by omega, rfl, hI.mono (by rw [hits_next, show i.toNat = m.length by omega, List.take_of_length_le (Nat.le_refl _)]; exact Nat.le_refl _)⟩⟩; omega)
  · obtain ⟨Av, cv, rfl⟩ := (S.rdRow (D := fGReading) (i := 2) rfl).len
    have hl1 := hitsLt_le m t
    repeat' (first | refine WP_seq ?_ | refine WP_region ?_ | refine wl_nil ?_ | refine then_normal ?_ | refine then_exit ?_ | refine inB_here ?_ | refine WP_ret ?_ | refine WP_exit ?_ | (refine g_move ?_; refine st_move rfl ?_) | (refine g_b_lss ?_; refine st_val rfl (r_lss rfl rfl) ?_) | (refine g_load ?_; refine st_val rfl (r_loadVarA (i := 1) S rfl rfl rfl rfl) ?_) | (refine g_store ?_; first | (refine st_skipE rfl (r_storeVar (i := 0) S rfl rfl rfl rfl (of_decide_eq_true rfl) (of_decide_eq_true rfl)) ?_; intro w S'; replace S := S'; clear S') | (refine st_skipE rfl (r_storeVar (i := 1) S rfl rfl rfl rfl (of_decide_eq_true rfl) (of_decide_eq_true rfl)) ?_; intro w S'; replace S := S'; clear S') | (refine st_skipE rfl (r_storeVar (i := 2) S rfl rfl rfl rfl (of_decide_eq_true rfl) (of_decide_eq_true rfl)) ?_; intro w S'; replace S := S'; clear S')) | (refine WP_cond rfl (fun h => ?_) (fun h => ?_) <;> (fail_if_success (have hh : true = true := h)) <;> (try simp only [decide_eq_true_eq, decide_eq_false_iff_not, Bool.not_eq_true', Bool.not_eq_false', Int.not_lt, Int.not_le] at h) <;> (try (exfalso; omega))))
    refine endCellA rfl rfl S (i := 0) rfl rfl ⟨_, rfl, S.below, _, l, rfl, S.row (i := 2) rfl, hI.fin (by omega) (by omega) (by omega)⟩
end Go.Proofs.Ytgphmhpcaeiglaa
