import Derived.Test.YtfdjnadopniaeaaLG
namespace Go.Proofs.Ytfdjnadopniaeaa
open Go Go.Gx Go.RowKit
open Kuhn
set_option linter.unusedVariables false
set_option linter.unusedSimpArgs false
theorem has_is {v : Value} {l : List Int} {n : Int} {b : Bool} {w : World} (hr : Rd (fInt .i64).ty w v l) (hl : l.length ≤ 1000000000) (h : decide (n ∈ l) = b) :
    CallsV Try.prog 30 #[v, .int .i64 n] w (.bool b) := by rw [← h]; exact has_spec hr hl
theorem Rd.cutHi {α : Type} {D : Flat α} {w : World} {v : Value} {l : List α} (h : Rd D.ty w v l) (n : Nat) (hn : n ≤ l.length) : Rd D.ty w (sliceV v 0 n D.sz) (l.take n) := by
  have := h.cut (lo := 0) (hi := n) (by omega) hn
  rw [List.drop_zero] at this; exact this
theorem mem_perI {l : List GGrant} {u : GUse} {k : Int} (hl : validG l = true) (hu : okU u = true) : k ∈ perI l u ↔ 0 ≤ k ∧ k < l.length ∧ permG (nth l k) u = true := by
  unfold perI perN
  rw [if_pos ⟨hl, hu⟩, List.mem_map]
  constructor
  · rintro ⟨n, hn, rfl⟩
    obtain ⟨h1, h2⟩ := List.mem_filter.1 hn
    have := List.mem_range.1 h1
    exact ⟨by omega, by omega, h2⟩
  · rintro ⟨h0, h1, h2⟩
    refine ⟨k.toNat, List.mem_filter.2 ⟨List.mem_range.2 (by omega), ?_⟩, by omega⟩
    rw [Int.toNat_of_nonneg h0]; exact h2
theorem asn_ok {l : List GGrant} {us : List GUse} (hl : validG l = true) (hu : validU us = true) (ha : asgL l us = true) : asnI l us = (iz (greedy l.length us.length (prmN l us) (plyN l)), 0) := by
  unfold asnI; rw [if_pos ⟨hl, hu, ha⟩]
theorem asn_bad {l : List GGrant} {us : List GUse} (ha : asgL l us = false) : asnI l us = ([], 80) := by
  unfold asnI; rw [if_neg (by rw [ha]; simp)]
theorem greedy_rng {l : List GGrant} {us : List GUse} (hl : validG l = true) (ha : asgL l us = true) : ∀ k ∈ iz (greedy l.length us.length (prmN l us) (plyN l)), 0 ≤ k ∧ k < l.length := fun k hk => by
  obtain ⟨i, hi, e⟩ := List.mem_iff_getElem.1 hk
  have hlen : (iz (greedy l.length us.length (prmN l us) (plyN l))).length = us.length := by simp [iz, greedy_len ha]
  obtain ⟨o, ho⟩ := lft_at hl ha i (by omega)
  obtain ⟨k', st⟩ := ho.step (by omega)
  have h1 := st.at_
  have h2 : nth (iz (greedy l.length us.length (prmN l us) (plyN l))) (i : Int) = k := by
    unfold nth; simp only [Int.toNat_natCast]; simp only [List.getD, List.getElem?_eq_getElem hi, Option.getD_some]; exact e
  rw [h2] at h1
  have := st.k0
  have := st.kl
  omega
theorem rest_bad {l : List GGrant} {us : List GUse} {o : List Int} {k n : Int} (ho : o.length = l.length) (hk : 0 ≤ k) (hkl : k < l.length) (hn : 0 ≤ n) (hf : Kuhn.A (prmN l (us.drop (n.toNat + 1))) (dec (plsN o) k.toNat) l.length (us.length - (n.toNat + 1)) = false) :
    asgL (setP (restN l o l.length) k (nth o k - 1)) (us.drop (n + 1).toNat) = false := by
  have hrl := restN_len l o l.length
  have e1 : nth o k = (nth (restN l o l.length) k).Plays := by rw [restN_nth l o _ (Nat.le_refl _) k hk, if_pos (by omega)]; rfl
  unfold asgL
  rw [setP_length, prmN_setP _ _ _ _ hk (by omega), e1, plyN_setP _ _ hk (by omega), restN_prm _ _ _ _ (Nat.le_refl _), restN_ply ho, hrl, List.length_drop, show (n + 1).toNat = n.toNat + 1 by omega]
  exact hf
set_option maxRecDepth 20000 in
set_option maxHeartbeats 16000000 in
theorem rightsFirst_spec {vx vy : Value} {xs : List GArr5Int} {ys : List GArr4Int} {which grant : Int} {w0 : World} (hrx : Rd fGArr5Int.ty w0 vx xs) (hx : ∀ x ∈ xs, okA5 x) (hxl : xs.length ≤ maxLen) (hry : Rd fGArr4Int.ty w0 vy ys) (hy : ∀ x ∈ ys, okA4 x) (hyl : ys.length ≤ maxLen)
    (i2 : inI which) (i3 : inI grant) :
    CallsV Try.prog 5 #[vx, vy, .int .i64 which, .int .i64 grant] w0 (.bool true) := by
  have S := St.start w0
  unfold inI at i2 i3
  obtain ⟨l, hl⟩ : ∃ l, madeG xs = l := ⟨_, rfl⟩
  obtain ⟨us, hu⟩ : ∃ us, madeU ys = us := ⟨_, rfl⟩
  have vl := madeG_ok xs
  have vu := madeU_ok ys
  have ll := madeG_len xs
  have lu := madeU_len ys
  rw [hl] at vl ll
  rw [hu] at vu lu
  refine CallsV.mk ?_
  refine calls_enter Try.func5 rfl (by intro _ h; first | exact nomatch h.1 | (obtain ⟨_, h, _⟩ := h; exact nomatch h)) Try.ntmps5 rfl ?_
  repeat' (first | refine WP_seq ?_ | refine WP_region ?_ | refine wl_nil ?_ | refine then_normal ?_ | refine WP_skip ?_ | refine WP_condF rfl ?_ | (refine g_move ?_; refine st_move rfl ?_) | (refine g_assign ?_; refine st_assign rfl ?_) | (refine g_un ?_; refine st_val rfl (r_not rfl) ?_) | (refine g_callV ?_; (refine st_callV rfl (r_call0 rfl) (sane_spec) ?_; intro w hb; replace S := S.grow hb; clear hb)))
  refine st_callR rfl (r_call1 rfl rfl) (made_run (hrx.mono S.below) hx hxl) ?_; rintro vL w hb hrow; replace S := S.new hb hrow; clear hb hrow
  repeat' (first | refine WP_seq ?_ | refine WP_region ?_ | refine wl_nil ?_ | refine then_normal ?_ | (refine g_move ?_; refine st_move rfl ?_) | (refine g_assign ?_; refine st_assign rfl ?_))
  refine st_callR rfl (r_call1 rfl rfl) (madeUses_run (hry.mono S.below) hy hyl) ?_; rintro vU w hb hrow; replace S := S.new hb hrow; clear hb hrow
  rw [hl, hu] at S
  obtain ⟨AU, cU, hz⟩ := (S.rdRow (D := fGUse) (i := 1) rfl).len; subst hz
  obtain ⟨AL, cL, hz⟩ := (S.rdRow (D := fGGrant) (i := 0) rfl).len; subst hz
  repeat' (first | refine WP_seq ?_ | refine WP_region ?_ | refine wl_nil ?_ | refine then_normal ?_ | (refine g_move ?_; refine st_move rfl ?_) | (refine g_assign ?_; refine st_assign rfl ?_))
  refine st_callR rfl (r_call2 rfl rfl rfl) (assign_run (S.rdRow (D := fGGrant) (i := 0) rfl) (S.rdRow (D := fGUse) (i := 1) rfl) (by omega) (by omega)) ?_; rintro v w hb ⟨vS, rfl, hrow⟩; replace S := S.new hb hrow; clear hb hrow
  cases ha : asgL l us with
  | false =>
    rw [asn_bad ha]
    repeat' (first | refine WP_seq ?_ | refine WP_region ?_ | refine wl_nil ?_ | refine then_normal ?_ | refine then_ret ?_ | refine WP_ret ?_ | refine WP_condT rfl ?_ | (refine g_guard ?_; refine st_off rfl ?_) | (refine g_move ?_; refine st_move rfl ?_) | (refine g_assign ?_; refine st_assign rfl ?_) | (refine g_pick ?_; first | refine st_pickT rfl rfl ?_ | refine st_pickF rfl rfl ?_) | (refine g_b_eql ?_; refine st_val rfl (r_eql rfl rfl) ?_) | (refine g_b_neq ?_; refine st_val rfl (r_neq rfl rfl) ?_) | (refine g_extract ?_; refine st_val rfl (r_extract rfl rfl) ?_))
    exact end1 rfl rfl ⟨rfl, S.below⟩
  | true =>
    have hgl := greedy_len ha
    obtain ⟨a, hga⟩ : ∃ a, iz (greedy l.length us.length (prmN l us) (plyN l)) = a := ⟨_, rfl⟩
    have hlf := lft_at vl ha
    have hal : a.length = us.length := by rw [← hga]; simp [iz, hgl]
    rw [hga] at hlf
    have hasn := asn_ok vl vu ha
    rw [hga] at hasn
    rw [hasn] at S ⊢
    have hS : St w0 w [rowOb fGGrant 52 (.slice AL l.length cL) l, rowOb fGUse 46 (.slice AU us.length cU) us, rowOb (fInt .i64) 3 vS a] := S
    clear S; have S := hS; clear hS
    obtain ⟨AS, cS, hz⟩ := (S.rdRow (D := fInt .i64) (i := 2) rfl).len; subst hz
    by_cases hu0 : us.length = 0
    · have ha0 : a.length = 0 := by omega
      repeat' (first | refine WP_seq ?_ | refine WP_region ?_ | refine wl_nil ?_ | refine then_normal ?_ | refine then_ret ?_ | refine WP_ret ?_ | (refine g_guard ?_; refine st_off rfl ?_) | (refine g_move ?_; refine st_move rfl ?_) | (refine g_assign ?_; refine st_assign rfl ?_) | (refine g_pick ?_; first | refine st_pickT rfl rfl ?_ | refine st_pickF rfl rfl ?_) | (refine g_b_eql ?_; refine st_val rfl (r_eql rfl rfl) ?_) | (refine g_b_neq ?_; refine st_val rfl (r_neq rfl rfl) ?_) | (refine g_extract ?_; refine st_val rfl (r_extract rfl rfl) ?_) | (refine g_c_len ?_; refine st_val rfl (r_lenSlice rfl) ?_) | (refine wl_split rfl rfl (fun h => ?_) (fun h => ?_) <;> (fail_if_success (have hh : true = true := h)) <;> (fail_if_success (have hh : false = false := h)) <;> (try simp only [decide_eq_true_eq, decide_eq_false_iff_not, Bool.not_eq_true', Bool.not_eq_false', Int.not_lt, Int.not_le] at h) <;> (try (exfalso; omega))) | (refine WP_cond rfl (fun h => ?_) (fun h => ?_) <;> (fail_if_success (have hh : true = true := h)) <;> (fail_if_success (have hh : false = false := h)) <;> (try simp only [decide_eq_true_eq, decide_eq_false_iff_not, Bool.not_eq_true', Bool.not_eq_false', Int.not_lt, Int.not_le] at h) <;> (try (exfalso; omega))))
      exact end1 rfl rfl ⟨rfl, S.below⟩
    · obtain ⟨n, hn⟩ : ∃ z, pickI which us.length = z := ⟨_, rfl⟩
      have rn := pickI_range (c := which) (n := us.length) (by omega)
      rw [hn] at rn
      obtain ⟨o, ho⟩ := hlf n.toNat (by omega)
      obtain ⟨kn, st⟩ := ho.step (by omega)
      have hleft := left_take vl vu (by omega) (by omega) ho
      have hol := ho.len
      have st1 := st.at_
      have st2 := st.k0
      have st3 := st.kl
      have st4 := st.first
      rw [Int.toNat_of_nonneg rn.1] at st1 st4
      have q1 : (us.take n.toNat).length ≤ us.length := by rw [List.length_take]; omega
      have q2 : (a.take n.toNat).length ≤ us.length := by rw [List.length_take]; omega
      have hkr : ∀ k ∈ a.take n.toNat, -9223372036854775808 ≤ k ∧ k ≤ 9223372036854775807 := fun k hk => by
        have := greedy_rng vl ha k (by rw [hga]; exact List.mem_of_mem_take hk)
        omega
      repeat' (first | refine WP_seq ?_ | refine WP_region ?_ | refine wl_nil ?_ | refine then_normal ?_ | refine WP_skip ?_ | refine WP_drawTail 7 (by kernel_rfl) (by decide +kernel) ?_ | (refine g_move ?_; refine st_move rfl ?_) | (refine g_assign ?_; refine st_assign rfl ?_) | (refine g_pick ?_; refine st_pickF rfl rfl ?_) | (refine g_b_eql ?_; refine st_val rfl (r_eql rfl rfl) ?_) | (refine g_b_neq ?_; refine st_val rfl (r_neq rfl rfl) ?_) | (refine g_extract ?_; refine st_val rfl (r_extract rfl rfl) ?_) | (refine g_c_len ?_; refine st_val rfl (r_lenSlice rfl) ?_) | (refine g_callV ?_; (refine st_callV rfl (r_call2 rfl rfl rfl) (pick_is hn (by omega) (by omega) (by omega)) ?_; intro w hb; replace S := S.grow hb; clear hb)) | (refine gq_move ?_; refine q_move rfl ?_) | (refine WP_cond rfl (fun h => ?_) (fun h => ?_) <;> (fail_if_success (have hh : true = true := h)) <;> (fail_if_success (have hh : false = false := h)) <;> (try simp only [decide_eq_true_eq, decide_eq_false_iff_not, Bool.not_eq_true', Bool.not_eq_false', Int.not_lt, Int.not_le] at h) <;> (try (exfalso; omega))))
      refine q_val rfl (fun w' hb => r_sliceHi ((S.grow hb).rdRow (D := fGUse) (i := 1) rfl) rfl rfl rn.1 (by omega)) ?_
      repeat' ((refine gq_move ?_; refine q_move rfl ?_))
      refine q_val rfl (fun w' hb => r_sliceHi ((S.grow hb).rdRow (D := fInt .i64) (i := 2) rfl) rfl rfl rn.1 (by omega)) ?_
      repeat' ((refine ql_nil ?_; intro w hb; replace S := S.grow hb; clear hb))
      refine st_callR rfl (r_call3 rfl rfl rfl rfl) (left_run (S.rdRow (D := fGGrant) (i := 0) rfl) (Rd.cutHi (S.rdRow (D := fGUse) (i := 1) rfl) n.toNat (by omega)) (Rd.cutHi (S.rdRow (D := fInt .i64) (i := 2) rfl) n.toNat (by omega)) (by omega) (by omega) (by omega) hkr) ?_; rintro vO w hb hrow; replace S := S.new hb hrow; clear hb hrow
      rw [hleft] at S
      obtain ⟨AO, cO, hz⟩ := (S.rdRow (D := fInt .i64) (i := 3) rfl).len; subst hz
      repeat' (first | refine WP_seq ?_ | refine WP_region ?_ | refine wl_nil ?_ | refine then_normal ?_ | refine WP_skip ?_ | (refine g_move ?_; refine st_move rfl ?_) | (refine g_assign ?_; refine st_assign rfl ?_) | (refine g_b_neq ?_; refine st_val rfl (r_neq rfl rfl) ?_) | (refine g_c_len ?_; refine st_val rfl (r_lenSlice rfl) ?_) | (refine WP_cond rfl (fun h => ?_) (fun h => ?_) <;> (fail_if_success (have hh : true = true := h)) <;> (fail_if_success (have hh : false = false := h)) <;> (try simp only [decide_eq_true_eq, decide_eq_false_iff_not, Bool.not_eq_true', Bool.not_eq_false', Int.not_lt, Int.not_le] at h) <;> (try (exfalso; omega))))
      refine st_callR rfl (r_call1 rfl rfl) (made_run (hrx.mono S.below) hx hxl) ?_; rintro vR w hb hrow; replace S := S.new hb hrow; clear hb hrow
      rw [hl] at S
      repeat' (first | refine WP_seq ?_ | refine WP_region ?_ | refine wl_nil ?_ | refine then_normal ?_ | refine WP_block ?_ | (refine g_assign ?_; refine st_assign rfl ?_))
      have hS : St w0 w [rowOb fGGrant 52 (.slice AL l.length cL) l, rowOb fGUse 46 (.slice AU us.length cU) us, rowOb (fInt .i64) 3 (.slice AS a.length cS) a, rowOb (fInt .i64) 3 (.slice AO o.length cO) o, rowOb fGGrant 52 vR (restN l o 0)] := S
      clear S; have S := hS; clear hS
      refine WP_loop (fun k σ w1 => ∃ (i : Nat), Has σ [(3, .int .i64 grant), (9, .bool true), (10, .slice AL l.length cL), (11, .slice AU us.length cU), (12, .slice AS a.length cS), (14, .int .i64 n), (15, .slice AO o.length cO), (16, vR), (17, .int .i64 (i : Int))] ∧ St w0 w1 [rowOb fGGrant 52 (.slice AL l.length cL) l, rowOb fGUse 46 (.slice AU us.length cU) us, rowOb (fInt .i64) 3 (.slice AS a.length cS) a, rowOb (fInt .i64) 3 (.slice AO o.length cO) o, rowOb fGGrant 52 vR (restN l o i)] ∧ i ≤ l.length ∧ k = l.length - i) l.length ⟨0, ⟨rfl, rfl, rfl, rfl, rfl, rfl, rfl, rfl, rfl, trivial⟩, S, by omega, by omega⟩ ?_
      clear S
      rintro k σ w1 ⟨i, hsl, S, hi1, rfl⟩
      refine WP_has hsl ?_
      have hrl := restN_len l o i
      by_cases hi : i < l.length
      · repeat' (first | refine WP_seq ?_ | refine WP_region ?_ | refine wl_nil ?_ | refine then_normal ?_ | (refine g_move ?_; refine st_move rfl ?_) | (refine g_b_lss ?_; refine st_val rfl (r_lss rfl rfl) ?_) | (refine g_c_len ?_; refine st_val rfl (r_lenSlice rfl) ?_))
        refine WP_cond rfl (fun _ => ?_) (fun h => absurd (of_decide_eq_false h) (by omega))
        repeat' (first | refine WP_seq ?_ | refine WP_region ?_ | refine then_normal ?_ | refine WP_skip ?_ | refine WP_block ?_ | (refine g_move ?_; refine st_move rfl ?_) | (refine g_fieldAddr ?_; refine st_val rfl (r_fieldAddr rfl) ?_) | (refine g_indexAddr ?_; first | (refine st_val rfl (r_indexAddr (S.rdRow (D := fInt .i64) (i := 3) rfl) rfl rfl ?_ ?_) ?_; (first | omega | (simp <;> omega)); (first | omega | (simp <;> omega))) | (refine st_val rfl (r_indexAddr (S.rdRow (D := fGGrant) (i := 4) rfl) rfl rfl ?_ ?_) ?_; (first | omega | (simp <;> omega)); (first | omega | (simp <;> omega)))) | (refine g_load ?_; (refine st_val rfl (r_loadElem1 (S.rdRow (D := fInt .i64) (i := 3) rfl) rfl ?_ ?_ rfl) ?_; (first | omega | (simp <;> omega)); (first | omega | (simp <;> omega)))))
        have hoi := ho.rng _ (nth_mem (l := o) (i := (i : Int)) (by omega) (by omega))
        refine g_store ?_
        refine st_skipE rfl (r_storeElemF (i := 4) (sz := 1) (D := fGGrant) (x := plG (nth (restN l o i) (i : Int)) (nth o (i : Int))) S rfl rfl rfl rfl rfl (by decide) (fun c hc => by cases List.mem_singleton.1 hc; rfl) (by omega) (by omega)) ?_
        intro w S'; clear S
        have S : St w0 w [rowOb fGGrant 52 (.slice AL l.length cL) l, rowOb fGUse 46 (.slice AU us.length cU) us, rowOb (fInt .i64) 3 (.slice AS a.length cS) a, rowOb (fInt .i64) 3 (.slice AO o.length cO) o, rowOb fGGrant 52 vR (restN l o (i + 1))] := S'
        clear S'
        repeat' (first | refine WP_region ?_ | refine wl_nil ?_ | refine then_normal ?_ | refine inB_normal ?_ | (refine g_move ?_; refine st_move rfl ?_) | (refine g_assign ?_; refine st_assign rfl ?_) | (refine g_b_add ?_; (refine st_val rfl (r_addN rfl rfl ?_ ?_) ?_; (first | omega | (simp <;> omega)); (first | omega | (simp <;> omega)))))
        refine nextI.mk ⟨_, ?_, i + 1, ⟨rfl, rfl, rfl, rfl, rfl, rfl, rfl, rfl, rfl, trivial⟩, S, by omega, rfl⟩
        omega
      · have ei : i = l.length := by omega
        subst ei
        obtain ⟨k, hk⟩ : ∃ z, pickI grant l.length = z := ⟨_, rfl⟩
        have rk := pickI_range (c := grant) (n := l.length) (by omega)
        rw [hk] at rk
        have hUn := okU_of vu _ (nth_mem rn.1 (by omega))
        have hmem := mem_perI (k := k) vl hUn
        obtain ⟨b, hb'⟩ : ∃ b, decide (k ∈ perI l (nth us n)) = b := ⟨_, rfl⟩
        have hpl : (perI l (nth us n)).length ≤ l.length := by unfold perI; split; · exact perN_len ..
                                                               · simp
        repeat' (first | refine WP_seq ?_ | refine WP_region ?_ | refine wl_nil ?_ | refine then_normal ?_ | refine then_exit ?_ | refine inB_here ?_ | refine WP_exit ?_ | (refine g_move ?_; refine st_move rfl ?_) | (refine g_assign ?_; refine st_assign rfl ?_) | (refine g_b_lss ?_; refine st_val rfl (r_lss rfl rfl) ?_) | (refine g_c_len ?_; refine st_val rfl (r_lenSlice rfl) ?_) | (refine g_indexAddr ?_; (refine st_val rfl (r_indexAddr (S.rdRow (D := fGUse) (i := 1) rfl) rfl rfl ?_ ?_) ?_; (first | omega | (simp <;> omega)); (first | omega | (simp <;> omega)))) | (refine g_load ?_; (refine st_val rfl (r_loadElem (S.rdRow (D := fGUse) (i := 1) rfl) rfl ?_ ?_) ?_; (first | omega | (simp <;> omega)); (first | omega | (simp <;> omega)))) | (refine g_callV ?_; (refine st_callV rfl (r_call2 rfl rfl rfl) (pick_is hk (by omega) (by omega) (by omega)) ?_; intro w hb; replace S := S.grow hb; clear hb)) | (refine WP_cond rfl (fun h => ?_) (fun h => ?_) <;> (fail_if_success (have hh : true = true := h)) <;> (fail_if_success (have hh : false = false := h)) <;> (try simp only [decide_eq_true_eq, decide_eq_false_iff_not, Bool.not_eq_true', Bool.not_eq_false', Int.not_lt, Int.not_le] at h) <;> (try (exfalso; omega))))
        refine st_callR rfl (r_call2 rfl rfl rfl) (permits_run (u := nth us n) (S.rdRow (D := fGGrant) (i := 0) rfl) (by omega)) ?_; rintro vP w hb hrow; replace S := S.new hb hrow; clear hb hrow
        cases b with
        | false =>
          repeat' (first | refine WP_seq ?_ | refine WP_region ?_ | refine wl_nil ?_ | refine then_normal ?_ | refine then_ret ?_ | refine WP_ret ?_ | refine WP_condT rfl ?_ | (refine g_guard ?_; refine st_off rfl ?_) | (refine g_move ?_; refine st_move rfl ?_) | (refine g_assign ?_; refine st_assign rfl ?_) | (refine g_pick ?_; refine st_pickT rfl rfl ?_) | (refine g_un ?_; refine st_val rfl (r_not rfl) ?_) | (refine g_callV ?_; (refine st_callV rfl (r_call2 rfl rfl rfl) (has_is (S.rdRow (D := fInt .i64) (i := 5) rfl) (by omega) hb') ?_; intro w hb; replace S := S.grow hb; clear hb)))
          exact end1 rfl rfl ⟨rfl, S.below⟩
        | true =>
          have hkm := hmem.1 (of_decide_eq_true hb')
          by_cases hka : nth a n ≤ k
          · have hka' : decide (k ≥ nth a n) = true := decide_eq_true hka
            repeat' (first | refine WP_seq ?_ | refine WP_region ?_ | refine wl_nil ?_ | refine then_normal ?_ | refine then_ret ?_ | refine WP_ret ?_ | refine WP_condT rfl ?_ | (refine g_guard ?_; refine st_off rfl ?_) | (refine g_move ?_; refine st_move rfl ?_) | (refine g_assign ?_; refine st_assign rfl ?_) | (refine g_pick ?_; first | refine st_pickT rfl rfl ?_ | refine st_pickF rfl rfl ?_) | (refine g_b_geq ?_; refine st_val rfl (r_geq rfl rfl) ?_) | (refine g_un ?_; refine st_val rfl (r_not rfl) ?_) | (refine g_indexAddr ?_; (refine st_val rfl (r_indexAddr (S.rdRow (D := fInt .i64) (i := 2) rfl) rfl rfl ?_ ?_) ?_; (first | omega | (simp <;> omega)); (first | omega | (simp <;> omega)))) | (refine g_load ?_; (refine st_val rfl (r_loadElem1 (S.rdRow (D := fInt .i64) (i := 2) rfl) rfl ?_ ?_ rfl) ?_; (first | omega | (simp <;> omega)); (first | omega | (simp <;> omega)))) | (refine g_callV ?_; (refine st_callV rfl (r_call2 rfl rfl rfl) (has_is (S.rdRow (D := fInt .i64) (i := 5) rfl) (by omega) hb') ?_; intro w hb; replace S := S.grow hb; clear hb)) | (refine wl_split rfl rfl (fun h => ?_) (fun h => ?_) <;> (fail_if_success (have hh : true = true := h)) <;> (fail_if_success (have hh : false = false := h)) <;> (try simp only [decide_eq_true_eq, decide_eq_false_iff_not, Bool.not_eq_true', Bool.not_eq_false', Int.not_lt, Int.not_le] at h) <;> (try (exfalso; omega))))
            exact end1 rfl rfl ⟨rfl, S.below⟩
          · by_cases hok : nth o k = 0
            · repeat' (first | refine WP_seq ?_ | refine WP_region ?_ | refine wl_nil ?_ | refine then_normal ?_ | refine then_ret ?_ | refine WP_ret ?_ | (refine g_move ?_; refine st_move rfl ?_) | (refine g_assign ?_; refine st_assign rfl ?_) | (refine g_pick ?_; refine st_pickF rfl rfl ?_) | (refine g_b_eql ?_; refine st_val rfl (r_eql rfl rfl) ?_) | (refine g_b_geq ?_; refine st_val rfl (r_geq rfl rfl) ?_) | (refine g_un ?_; refine st_val rfl (r_not rfl) ?_) | (refine g_indexAddr ?_; first | (refine st_val rfl (r_indexAddr (S.rdRow (D := fInt .i64) (i := 2) rfl) rfl rfl ?_ ?_) ?_; (first | omega | (simp <;> omega)); (first | omega | (simp <;> omega))) | (refine st_val rfl (r_indexAddr (S.rdRow (D := fInt .i64) (i := 3) rfl) rfl rfl ?_ ?_) ?_; (first | omega | (simp <;> omega)); (first | omega | (simp <;> omega)))) | (refine g_load ?_; first | (refine st_val rfl (r_loadElem1 (S.rdRow (D := fInt .i64) (i := 2) rfl) rfl ?_ ?_ rfl) ?_; (first | omega | (simp <;> omega)); (first | omega | (simp <;> omega))) | (refine st_val rfl (r_loadElem1 (S.rdRow (D := fInt .i64) (i := 3) rfl) rfl ?_ ?_ rfl) ?_; (first | omega | (simp <;> omega)); (first | omega | (simp <;> omega)))) | (refine g_callV ?_; (refine st_callV rfl (r_call2 rfl rfl rfl) (has_is (S.rdRow (D := fInt .i64) (i := 5) rfl) (by omega) hb') ?_; intro w hb; replace S := S.grow hb; clear hb)) | (refine wl_split rfl rfl (fun h => ?_) (fun h => ?_) <;> (fail_if_success (have hh : true = true := h)) <;> (fail_if_success (have hh : false = false := h)) <;> (try simp only [decide_eq_true_eq, decide_eq_false_iff_not, Bool.not_eq_true', Bool.not_eq_false', Int.not_lt, Int.not_le] at h) <;> (try (exfalso; omega))) | (refine WP_cond rfl (fun h => ?_) (fun h => ?_) <;> (fail_if_success (have hh : true = true := h)) <;> (fail_if_success (have hh : false = false := h)) <;> (try simp only [decide_eq_true_eq, decide_eq_false_iff_not, Bool.not_eq_true', Bool.not_eq_false', Int.not_lt, Int.not_le] at h) <;> (try (exfalso; omega))))
              exact end1 rfl rfl ⟨rfl, S.below⟩
            · have hok1 := ho.rng _ (nth_mem (l := o) (i := k) (by omega) (by omega))
              have hbd := rest_bad hol rk.1 rk.2 rn.1 (st4 k rk.1 (by omega) hkm.2.2 hok)
              have hq := asn_bad hbd
              have hsl := setP_length (restN l o l.length) k (nth o k - 1)
              repeat' (first | refine WP_seq ?_ | refine WP_region ?_ | refine wl_nil ?_ | refine then_normal ?_ | refine WP_skip ?_ | (refine g_move ?_; refine st_move rfl ?_) | (refine g_pick ?_; refine st_pickF rfl rfl ?_) | (refine g_b_sub ?_; (refine st_val rfl (r_subN rfl rfl ?_ ?_) ?_; (first | omega | (simp <;> omega)); (first | omega | (simp <;> omega)))) | (refine g_b_eql ?_; refine st_val rfl (r_eql rfl rfl) ?_) | (refine g_b_geq ?_; refine st_val rfl (r_geq rfl rfl) ?_) | (refine g_un ?_; refine st_val rfl (r_not rfl) ?_) | (refine g_fieldAddr ?_; refine st_val rfl (r_fieldAddr rfl) ?_) | (refine g_indexAddr ?_; first | (refine st_val rfl (r_indexAddr (S.rdRow (D := fInt .i64) (i := 2) rfl) rfl rfl ?_ ?_) ?_; (first | omega | (simp <;> omega)); (first | omega | (simp <;> omega))) | (refine st_val rfl (r_indexAddr (S.rdRow (D := fInt .i64) (i := 3) rfl) rfl rfl ?_ ?_) ?_; (first | omega | (simp <;> omega)); (first | omega | (simp <;> omega))) | (refine st_val rfl (r_indexAddr (S.rdRow (D := fGGrant) (i := 4) rfl) rfl rfl ?_ ?_) ?_; (first | omega | (simp <;> omega)); (first | omega | (simp <;> omega)))) | (refine g_load ?_; first | (refine st_val rfl (r_loadElem1 (S.rdRow (D := fInt .i64) (i := 2) rfl) rfl ?_ ?_ rfl) ?_; (first | omega | (simp <;> omega)); (first | omega | (simp <;> omega))) | (refine st_val rfl (r_loadElem1 (S.rdRow (D := fInt .i64) (i := 3) rfl) rfl ?_ ?_ rfl) ?_; (first | omega | (simp <;> omega)); (first | omega | (simp <;> omega)))) | (refine g_callV ?_; (refine st_callV rfl (r_call2 rfl rfl rfl) (has_is (S.rdRow (D := fInt .i64) (i := 5) rfl) (by omega) hb') ?_; intro w hb; replace S := S.grow hb; clear hb)) | (refine wl_split rfl rfl (fun h => ?_) (fun h => ?_) <;> (fail_if_success (have hh : true = true := h)) <;> (fail_if_success (have hh : false = false := h)) <;> (try simp only [decide_eq_true_eq, decide_eq_false_iff_not, Bool.not_eq_true', Bool.not_eq_false', Int.not_lt, Int.not_le] at h) <;> (try (exfalso; omega))) | (refine WP_cond rfl (fun h => ?_) (fun h => ?_) <;> (fail_if_success (have hh : true = true := h)) <;> (fail_if_success (have hh : false = false := h)) <;> (try simp only [decide_eq_true_eq, decide_eq_false_iff_not, Bool.not_eq_true', Bool.not_eq_false', Int.not_lt, Int.not_le] at h) <;> (try (exfalso; omega))))
              refine g_store ?_
              refine st_skipE rfl (r_storeElemF (i := 4) (sz := 1) (D := fGGrant) (x := plG (nth (restN l o l.length) k) (nth o k - 1)) S rfl rfl rfl rfl rfl (by decide) (fun c hc => by cases List.mem_singleton.1 hc; rfl) (by omega) (by omega)) ?_
              intro w S'; clear S
              have S : St w0 w [rowOb fGGrant 52 (.slice AL l.length cL) l, rowOb fGUse 46 (.slice AU us.length cU) us, rowOb (fInt .i64) 3 (.slice AS a.length cS) a, rowOb (fInt .i64) 3 (.slice AO o.length cO) o, rowOb fGGrant 52 vR (setP (restN l o l.length) k (nth o k - 1)), rowOb (fInt .i64) 3 vP (perI l (nth us n))] := S'
              clear S'
              repeat' (first | refine WP_seq ?_ | refine WP_region ?_ | refine wl_nil ?_ | refine then_normal ?_ | (refine g_move ?_; refine st_move rfl ?_) | (refine g_b_add ?_; (refine st_val rfl (r_addN rfl rfl ?_ ?_) ?_; (first | omega | (simp <;> omega)); (first | omega | (simp <;> omega)))))
              refine st_valE rfl (r_sliceLoE (S.rdRow (D := fGUse) (i := 1) rfl) rfl rfl (by omega) (by omega)) ?_
              rintro vs' _ ⟨rfl, hrs⟩
              skip
              refine st_callR rfl (r_call2 rfl rfl rfl) (assign_run (S.rdRow (D := fGGrant) (i := 4) rfl) hrs (by omega) (by rw [List.length_drop]; omega)) ?_; rintro v w hb ⟨v1, rfl, hrow⟩; replace S := S.new hb hrow; clear hb hrow
              rw [hq]
              repeat' (first | refine WP_seq ?_ | refine WP_region ?_ | refine wl_nil ?_ | refine then_normal ?_ | refine WP_ret ?_ | (refine g_move ?_; refine st_move rfl ?_) | (refine g_assign ?_; refine st_assign rfl ?_) | (refine g_b_eql ?_; refine st_val rfl (r_eql rfl rfl) ?_) | (refine g_extract ?_; refine st_val rfl (r_extract rfl rfl) ?_))
              exact end1 rfl rfl ⟨rfl, S.below⟩
end Go.Proofs.Ytfdjnadopniaeaa
