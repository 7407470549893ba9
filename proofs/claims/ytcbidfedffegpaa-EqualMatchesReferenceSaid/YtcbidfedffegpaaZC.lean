import Derived.Test.YtcbidfedffegpaaQ
namespace Go.Proofs.Ytcbidfedffegpaa
open Go Go.Gx Go.RowKit
set_option linter.unusedVariables false
set_option linter.unusedSimpArgs false
theorem take_min {α : Type} (l : List α) (n : Nat) : l.take (min (l.length : Int) (n : Int)).toNat = l.take n := by
  rw [List.take_eq_take_iff]; omega
/-- A slice's header. -/
abbrev SH := Option Addr × Nat × Nat
def shV (x : SH) : Value := .slice x.1 x.2.1 x.2.2
def fSh : Flat SH := ⟨1, fun x => [shV x], fun _ => rfl⟩
theorem cutHi {α : Type} {D : Ty α} {w : World} {v : Value} {l : List α} (h : Rd D w v l) (k : Nat) (hk : k ≤ l.length) : Rd D w (sliceV v 0 k D.sz) (l.take k) := by
  have := h.cut (lo := 0) (hi := k) (Nat.zero_le _) hk; rwa [List.drop_zero] at this
theorem over_len {n : Int} {l : List GAppearance} {now : Int} : (overI n l now).length ≤ 480 := by
  unfold overI kept; exact Nat.le_trans (List.length_filter_le _ _) claims_len
theorem tot_len8 {n : Int} {l : List GAppearance} {now : Int} : (totI n l now).length ≤ 8 := by
  unfold totI; split
  · rw [List.length_take, hadAt_len]; omega
  · simp
theorem owe_len8 {n : Int} {l : List GAppearance} {now : Int} : (oweI n l now).length ≤ 8 := by
  unfold oweI; split
  · rename_i h
    unfold okA at h; simp only [Bool.and_eq_true] at h
    have := valid_at h.1
    unfold sumsI; simp; omega
  · simp
set_option maxRecDepth 20000 in
set_option maxHeartbeats 32000000 in
theorem matches_spec {P1 : GAppearance → Prop} {vr vx : Value} {raw : List GAppearance} {xs : List GArr4Int} {n now : Int} {w0 : World}
    (hrr : Rd fGAppearance.ty w0 vr raw) (hrI : ∀ x ∈ raw, P1 x) (hrl : raw.length ≤ maxLen) (hn : inI n) (hrx : Rd fGArr4Int.ty w0 vx xs) (hx : ∀ x ∈ xs, okA4 x) (hxl : xs.length ≤ maxLen) (ht : inI now) :
    CallsV Try.prog 3 #[vr, .int .i64 n, vx, .int .i64 now] w0 (.bool true) := by
  have S := St.start w0
  have hn' := hn
  unfold inI at hn' ht
  simp only [maxLen] at hrl
  have hcn := cntI_range n
  have hpn := pickI_range (c := now) (n := 3000000) (by omega)
  have mG := madeA_len n xs
  obtain ⟨Ar, cr, hz⟩ := hrr.len; subst hz
  refine CallsV.mk ?_
  refine calls_enter Try.func3 rfl (by intro _ h; first | exact nomatch h.1 | (obtain ⟨_, h, _⟩ := h; exact nomatch h)) Try.ntmps3 rfl ?_
  repeat' (first | refine WP_seq ?_ | refine WP_region ?_ | refine wl_nil ?_ | refine then_normal ?_ | refine WP_skip ?_ | refine WP_condF rfl ?_ | (refine WP_drawJ (fun w' => St w0 w' []) [0,1,2,3,4,5,6] [7] [8,9] (by kernel_rfl) (by decide) (by decide +kernel) (fun w' hb => (S.grow hb).keep []) ?_; intro w hb; replace S := S.grow hb; clear hb) | (refine g_move ?_; refine st_move rfl ?_) | (refine g_assign ?_; refine st_assign rfl ?_) | (refine g_un ?_; refine st_val rfl (r_not rfl) ?_) | (refine g_callV ?_; (refine st_callV rfl (r_call0 rfl) (sane_spec) ?_; intro w hb; replace S := S.grow hb; clear hb)) | (refine gj_move ?_; refine jq_val rfl (fun w' hJ => ⟨rfl⟩) ?_) | (refine gj_assign ?_; refine jq_val rfl (fun w' hJ => ⟨rfl⟩) ?_) | (refine gj_c_min ?_; refine jq_val rfl (fun w' hJ => r_min2 rfl rfl) ?_) | (refine gj_c_len ?_; refine jq_val rfl (fun w' hJ => r_lenSlice rfl) ?_))
  refine jq_val rfl (fun w' hJ => r_sliceHi (hrr.mono hJ.below) rfl rfl (by omega) (by omega)) ?_
  repeat' (first | refine jq_nil ?_ | (refine gj_move ?_; refine jq_val rfl (fun w' hJ => ⟨rfl⟩) ?_) | (refine gj_assign ?_; refine jq_val rfl (fun w' hJ => ⟨rfl⟩) ?_))
  refine wj_callR rfl (r_call2 rfl rfl rfl) (made_run hn (hrx.mono S.below) hx hxl) ?_
  rintro g1 w hb hrow; replace S := S.new hb hrow; clear hb hrow
  refine ⟨S.keep [false], wj_nil ?_⟩
  obtain ⟨g0, hg0⟩ : ∃ z, sliceV (Value.slice Ar raw.length cr) 0 (min (raw.length : Int) 61).toNat fGAppearance.ty.sz = z := ⟨_, rfl⟩
  have hR0 := cutHi (D := fGAppearance.ty) hrr (min (raw.length : Int) 61).toNat (by omega)
  rw [show raw.take (min (raw.length : Int) 61).toNat = raw.take 61 from take_min raw 61] at hR0
  rw [hg0]
  replace hR0 : Rd fGAppearance.ty w0 g0 (raw.take 61) := by rw [← hg0]; exact hR0
  obtain ⟨A0, c0, hz⟩ := hR0.len; subst hz
  obtain ⟨A1, c1, hz⟩ := (S.rdRow (D := fGAppearance) (i := 0) rfl).len; subst hz
  have hl0 : (raw.take 61).length ≤ 61 := by rw [List.length_take]; omega
  skip
  refine st_valE rfl (r_litF (D := fSh) [((A0, (raw.take 61).length, c0) : SH), (A1, (madeA n xs).length, c1)] shV S rfl rfl (fun _ => rfl) rfl (by decide) (by decide)) ?_
  rintro _ w ⟨bl, rfl, -, -, S'⟩; replace S := S'; clear S'
  repeat' (first | refine WP_seq ?_ | refine WP_region ?_ | refine wl_nil ?_ | refine then_normal ?_ | (refine g_move ?_; refine st_move rfl ?_) | (refine g_assign ?_; refine st_assign rfl ?_) | (refine g_callV ?_; (refine st_callV rfl (r_call1 rfl rfl) (count_spec (by omega) (by omega)) ?_; intro w hb; replace S := S.grow hb; clear hb)))
  refine st_valE rfl (r_litF (D := fInt .i64) [n, cntI n] (fun x => .int .i64 x) S rfl rfl (fun _ => rfl) rfl (by decide) (by decide)) ?_
  rintro _ w ⟨bc, rfl, -, -, S'⟩; replace S := S'; clear S'
  repeat' (first | refine WP_seq ?_ | refine WP_region ?_ | refine wl_nil ?_ | refine then_normal ?_ | (refine g_move ?_; refine st_move rfl ?_) | (refine g_assign ?_; refine st_assign rfl ?_) | (refine g_callV ?_; (refine st_callV rfl (r_call2 rfl rfl rfl) (pick_spec (by omega) (by omega) (by omega)) ?_; intro w hb; replace S := S.grow hb; clear hb)))
  refine st_valE rfl (r_litF (D := fInt .i64) [now, pickI now 3000000] (fun x => .int .i64 x) S rfl rfl (fun _ => rfl) rfl (by decide) (by decide)) ?_
  rintro _ w ⟨bt, rfl, -, -, S'⟩; replace S := S'; clear S'
  repeat' (first | refine WP_seq ?_ | refine WP_region ?_ | refine wl_nil ?_ | refine then_normal ?_ | refine WP_block ?_ | (refine g_assign ?_; refine st_assign rfl ?_))
  obtain ⟨OB, hOB⟩ : ∃ OB, OB = [rowOb fGAppearance 49 (Value.slice A1 (madeA n xs).length c1) (madeA n xs), rowOb fSh 22 (.slice (some ⟨bl, 0, none⟩) 2 2) [((A0, (raw.take 61).length, c0) : SH), (A1, (madeA n xs).length, c1)], rowOb (fInt .i64) 3 (.slice (some ⟨bc, 0, none⟩) 2 2) [n, cntI n], rowOb (fInt .i64) 3 (.slice (some ⟨bt, 0, none⟩) 2 2) [now, pickI now 3000000]] := ⟨_, rfl⟩
  replace S : St w0 w OB := by rw [hOB]; exact S
  have hH : ∀ {w : World}, St w0 w OB → Rd fSh.ty w (.slice (some ⟨bl, 0, none⟩) 2 2) [((A0, (raw.take 61).length, c0) : SH), (A1, (madeA n xs).length, c1)] := fun {w} S => by rw [hOB] at S; exact S.rdRow (D := fSh) (i := 1) rfl
  have hC : ∀ {w : World}, St w0 w OB → Rd (fInt .i64).ty w (.slice (some ⟨bc, 0, none⟩) 2 2) [n, cntI n] := fun {w} S => by rw [hOB] at S; exact S.rdRow (D := fInt .i64) (i := 2) rfl
  have hT : ∀ {w : World}, St w0 w OB → Rd (fInt .i64).ty w (.slice (some ⟨bt, 0, none⟩) 2 2) [now, pickI now 3000000] := fun {w} S => by rw [hOB] at S; exact S.rdRow (D := fInt .i64) (i := 3) rfl
  have hL1 : ∀ {w : World}, St w0 w OB → Rd fGAppearance.ty w (.slice A1 (madeA n xs).length c1) (madeA n xs) := fun {w} S => by rw [hOB] at S; exact S.rdRow (D := fGAppearance) (i := 0) rfl
  have hlist : ∀ i : Int, 0 ≤ i → i < 2 → ∃ A c l, nth [((A0, (raw.take 61).length, c0) : SH), (A1, (madeA n xs).length, c1)] i = (A, l.length, c) ∧ l.length ≤ 61 ∧ ∀ {w : World}, St w0 w OB → Rd fGAppearance.ty w (.slice A l.length c) l := fun i i0 i1 => by
    by_cases h : i = 0
    · subst h; exact ⟨A0, c0, raw.take 61, rfl, hl0, fun {w} S => hR0.mono S.below⟩
    · have : i = 1 := by omega
      subst this; exact ⟨A1, c1, madeA n xs, rfl, by omega, fun {w} S => hL1 S⟩
  have hcnt : ∀ i : Int, 0 ≤ i → i < 2 → inI (nth [n, cntI n] i) := fun i i0 i1 => by
    by_cases h : i = 0
    · subst h; exact hn
    · have : i = 1 := by omega
      subst this; show inI (cntI n); unfold inI; omega
  obtain ⟨hs, hhs⟩ : ∃ hs, hs = [((A0, (raw.take 61).length, c0) : SH), (A1, (madeA n xs).length, c1)] := ⟨_, rfl⟩
  obtain ⟨cs, hcs⟩ : ∃ cs, cs = [n, cntI n] := ⟨_, rfl⟩
  obtain ⟨ts, hts⟩ : ∃ ts, ts = [now, pickI now 3000000] := ⟨_, rfl⟩
  rw [← hhs] at hlist
  simp only [← hhs] at hH
  simp only [← hcs] at hC hcnt
  simp only [← hts] at hT
  have hcl2 : cs.length = 2 := by rw [hcs]; rfl
  have htl2 : ts.length = 2 := by rw [hts]; rfl
  have hhl2 : hs.length = 2 := by rw [hhs]; rfl
  clear hOB hR0 hL1 hg0 hcs hts hhs
  refine WP_loop (fun z σ w1 => ∃ i : Int, Has σ [(9, .bool true), (10, .slice (some ⟨bl, 0, none⟩) 2 2), (11, .slice (some ⟨bc, 0, none⟩) 2 2), (12, .slice (some ⟨bt, 0, none⟩) 2 2), (13, .int .i64 i)] ∧ St w0 w1 OB ∧ 0 ≤ i ∧ i ≤ 2 ∧ z = 2 - i.toNat) 2 ⟨0, ⟨rfl, rfl, rfl, rfl, rfl, trivial⟩, S, by omega, by omega, by omega⟩ ?_
  clear S
  rintro z σ w1 ⟨i, hsi, S, hi0, hi1, rfl⟩
  refine WP_has hsi ?_
  by_cases hi : i < 2
  · repeat' (first | refine WP_seq ?_ | refine WP_region ?_ | refine wl_nil ?_ | refine then_normal ?_ | refine WP_skip ?_ | refine WP_block ?_ | (refine g_move ?_; refine st_move rfl ?_) | (refine g_assign ?_; refine st_assign rfl ?_) | (refine g_b_lss ?_; refine st_val rfl (r_lss rfl rfl) ?_) | (refine WP_cond rfl (fun h => ?_) (fun h => ?_) <;> (fail_if_success (have hh : true = true := h)) <;> (fail_if_success (have hh : false = false := h)) <;> (try simp only [decide_eq_true_eq, decide_eq_false_iff_not, Bool.not_eq_true', Bool.not_eq_false', Int.not_lt, Int.not_le] at h) <;> (try (exfalso; omega))))
    refine WP_loop (fun z σ w1 => ∃ k : Int, Has σ [(9, .bool true), (10, .slice (some ⟨bl, 0, none⟩) 2 2), (11, .slice (some ⟨bc, 0, none⟩) 2 2), (12, .slice (some ⟨bt, 0, none⟩) 2 2), (13, .int .i64 i), (14, .int .i64 k)] ∧ St w0 w1 OB ∧ 0 ≤ k ∧ k ≤ 2 ∧ z = 2 - k.toNat) 2 ⟨0, ⟨rfl, rfl, rfl, rfl, rfl, rfl, trivial⟩, S, by omega, by omega, by omega⟩ ?_
    clear S
    rintro z2 σ2 w2 ⟨k, hsk, S, hk0, hk1, rfl⟩
    refine WP_has hsk ?_
    by_cases hk : k < 2
    · obtain ⟨A, c, l, hsl, hll, hRl⟩ := hlist i hi0 hi
      have hci := hcnt k hk0 hk
      unfold inI at hci
      have hvl : (fSh.enc (nth hs i))[0]? = some (.slice A l.length c) := by rw [hsl]; rfl
      repeat' (first | refine WP_seq ?_ | refine WP_region ?_ | refine wl_nil ?_ | refine then_normal ?_ | refine WP_skip ?_ | refine WP_block ?_ | (refine g_move ?_; refine st_move rfl ?_) | (refine g_assign ?_; refine st_assign rfl ?_) | (refine g_b_neq ?_; refine st_val rfl (r_neqB rfl rfl) ?_) | (refine g_b_lss ?_; refine st_val rfl (r_lss rfl rfl) ?_) | (refine g_indexAddr ?_; (refine st_val rfl (r_indexAddr (hC S) rfl rfl ?_ ?_) ?_; (first | omega | (simp <;> omega)); (first | omega | (simp <;> omega)))) | (refine g_load ?_; (refine st_val rfl (r_loadElem1 (hC S) rfl ?_ ?_ rfl) ?_; (first | omega | (simp <;> omega)); (first | omega | (simp <;> omega)))) | (refine g_callV ?_; first | (refine st_callV rfl (r_call2 rfl rfl rfl) (valid_is hci (hRl S) (by omega) rfl) ?_; intro w hb; replace S := S.grow hb; clear hb) | (refine st_callV rfl (r_call2 rfl rfl rfl) (validR_is hci (hRl S) (by omega) rfl) ?_; intro w hb; replace S := S.grow hb; clear hb)) | (refine st_val rfl (r_indexAddr (hH S) rfl rfl hi0 (by omega)) ?_) | (refine st_val rfl (r_loadElem1 (hH S) rfl hi0 (by omega) hvl) ?_) | (refine WP_cond rfl (fun h => ?_) (fun h => ?_) <;> (fail_if_success (have hh : true = true := h)) <;> (fail_if_success (have hh : false = false := h)) <;> (try simp only [decide_eq_true_eq, decide_eq_false_iff_not, Bool.not_eq_true', Bool.not_eq_false', Int.not_lt, Int.not_le] at h) <;> (try (exfalso; omega)) <;> (try (exfalso; exact absurd trivial h; done))))
      generalize nth cs k = cn at *
      refine WP_loop (fun z σ w1 => ∃ t : Int, Has σ [(9, .bool true), (10, .slice (some ⟨bl, 0, none⟩) 2 2), (11, .slice (some ⟨bc, 0, none⟩) 2 2), (12, .slice (some ⟨bt, 0, none⟩) 2 2), (13, .int .i64 i), (14, .int .i64 k), (15, .slice A l.length c), (16, .int .i64 cn), (17, .int .i64 t)] ∧ St w0 w1 OB ∧ 0 ≤ t ∧ t ≤ 2 ∧ z = 2 - t.toNat) 2 ⟨0, ⟨rfl, rfl, rfl, rfl, rfl, rfl, rfl, rfl, rfl, trivial⟩, S, by omega, by omega, by omega⟩ ?_
      clear S
      rintro z3 σ3 w3 ⟨t, hst, S0, ht0, ht1, rfl⟩
      refine WP_has hst ?_
      by_cases htt : t < 2
      · have hT1 := hT S0
        have hl1 := hRl S0
        have S := St.start w3
        obtain ⟨C, hCe⟩ : ∃ C, claimsI cn l (nth ts t) = C := ⟨_, rfl⟩
        have hCl : C.length ≤ 480 := by rw [← hCe]; exact claims_len
        obtain ⟨D, hDe⟩ : ∃ D, overI cn l (nth ts t) = D := ⟨_, rfl⟩
        have hDl : D.length ≤ 480 := by rw [← hDe]; exact over_len
        obtain ⟨O, hOe⟩ : ∃ O, oweI cn l (nth ts t) = O := ⟨_, rfl⟩
        have hOl : O.length ≤ 8 := by rw [← hOe]; exact owe_len8
        obtain ⟨Q, hQe⟩ : ∃ Q, totI cn l (nth ts t) = Q := ⟨_, rfl⟩
        have hQl : Q.length ≤ 8 := by rw [← hQe]; exact tot_len8
        obtain ⟨e, hEe⟩ : ∃ e, errI cn l (nth ts t) = e := ⟨_, rfl⟩
        obtain ⟨x, hXe⟩ : ∃ x, (firstI cn l (nth ts t)).1 = x := ⟨_, rfl⟩
        obtain ⟨b, hBe⟩ : ∃ b, (firstI cn l (nth ts t)).2 = b := ⟨_, rfl⟩
        repeat' (first | refine WP_seq ?_ | refine WP_region ?_ | refine wl_nil ?_ | refine then_normal ?_ | refine WP_skip ?_ | refine WP_block ?_ | (refine g_move ?_; refine st_move rfl ?_) | (refine g_b_lss ?_; refine st_val rfl (r_lss rfl rfl) ?_) | (refine g_indexAddr ?_; (refine st_val rfl (r_indexAddr (hT1.mono S.below) rfl rfl ?_ ?_) ?_; (first | omega | (simp <;> omega)); (first | omega | (simp <;> omega)))) | (refine g_load ?_; (refine st_val rfl (r_loadElem1 (hT1.mono S.below) rfl ?_ ?_ rfl) ?_; (first | omega | (simp <;> omega)); (first | omega | (simp <;> omega)))) | (refine WP_cond rfl (fun h => ?_) (fun h => ?_) <;> (fail_if_success (have hh : true = true := h)) <;> (fail_if_success (have hh : false = false := h)) <;> (try simp only [decide_eq_true_eq, decide_eq_false_iff_not, Bool.not_eq_true', Bool.not_eq_false', Int.not_lt, Int.not_le] at h) <;> (try (exfalso; omega))))
        refine st_callR rfl (r_call3 rfl rfl rfl rfl) (claims_is hci (hl1.mono S.below) (by omega) hCe hEe) ?_
        rintro _ w hb ⟨v1, rfl, hrow⟩
        replace S := S.new hb hrow
        clear hb hrow
        repeat' (first | refine WP_seq ?_ | refine WP_region ?_ | refine wl_nil ?_ | refine then_normal ?_ | (refine g_move ?_; refine st_move rfl ?_) | (refine g_assign ?_; refine st_assign rfl ?_) | (refine g_extract ?_; refine st_val rfl (r_extract rfl rfl) ?_) | (refine g_indexAddr ?_; (refine st_val rfl (r_indexAddr (hT1.mono S.below) rfl rfl ?_ ?_) ?_; (first | omega | (simp <;> omega)); (first | omega | (simp <;> omega)))) | (refine g_load ?_; (refine st_val rfl (r_loadElem1 (hT1.mono S.below) rfl ?_ ?_ rfl) ?_; (first | omega | (simp <;> omega)); (first | omega | (simp <;> omega)))))
        refine st_callR rfl (r_call3 rfl rfl rfl rfl) (claimsR_is hci (hl1.mono S.below) (by omega) hCe hEe) ?_
        rintro _ w hb ⟨v2, rfl, hrow⟩
        replace S := S.new hb hrow
        clear hb hrow
        repeat' (first | refine WP_seq ?_ | refine WP_region ?_ | refine wl_nil ?_ | refine then_normal ?_ | (refine g_move ?_; refine st_move rfl ?_) | (refine g_assign ?_; refine st_assign rfl ?_) | (refine g_extract ?_; refine st_val rfl (r_extract rfl rfl) ?_) | (refine g_indexAddr ?_; (refine st_val rfl (r_indexAddr (hT1.mono S.below) rfl rfl ?_ ?_) ?_; (first | omega | (simp <;> omega)); (first | omega | (simp <;> omega)))) | (refine g_load ?_; (refine st_val rfl (r_loadElem1 (hT1.mono S.below) rfl ?_ ?_ rfl) ?_; (first | omega | (simp <;> omega)); (first | omega | (simp <;> omega)))))
        refine st_callR rfl (r_call3 rfl rfl rfl rfl) (overdue_is hci (hl1.mono S.below) (by omega) hDe hEe) ?_
        rintro _ w hb ⟨v3, rfl, hrow⟩
        replace S := S.new hb hrow
        clear hb hrow
        repeat' (first | refine WP_seq ?_ | refine WP_region ?_ | refine wl_nil ?_ | refine then_normal ?_ | (refine g_move ?_; refine st_move rfl ?_) | (refine g_assign ?_; refine st_assign rfl ?_) | (refine g_extract ?_; refine st_val rfl (r_extract rfl rfl) ?_) | (refine g_indexAddr ?_; (refine st_val rfl (r_indexAddr (hT1.mono S.below) rfl rfl ?_ ?_) ?_; (first | omega | (simp <;> omega)); (first | omega | (simp <;> omega)))) | (refine g_load ?_; (refine st_val rfl (r_loadElem1 (hT1.mono S.below) rfl ?_ ?_ rfl) ?_; (first | omega | (simp <;> omega)); (first | omega | (simp <;> omega)))))
        refine st_callR rfl (r_call3 rfl rfl rfl rfl) (overdueR_is hci (hl1.mono S.below) (by omega) hDe hEe) ?_
        rintro _ w hb ⟨v4, rfl, hrow⟩
        replace S := S.new hb hrow
        clear hb hrow
        repeat' (first | refine WP_seq ?_ | refine WP_region ?_ | refine wl_nil ?_ | refine then_normal ?_ | refine WP_skip ?_ | refine WP_condF rfl ?_ | (refine g_move ?_; refine st_move rfl ?_) | (refine g_assign ?_; refine st_assign rfl ?_) | (refine g_pick ?_; refine st_pickF rfl rfl ?_) | (refine g_b_neq ?_; refine st_val rfl (r_neq rfl rfl) ?_) | (refine g_un ?_; refine st_val rfl (r_not rfl) ?_) | (refine g_extract ?_; refine st_val rfl (r_extract rfl rfl) ?_) | (refine g_indexAddr ?_; (refine st_val rfl (r_indexAddr (hT1.mono S.below) rfl rfl ?_ ?_) ?_; (first | omega | (simp <;> omega)); (first | omega | (simp <;> omega)))) | (refine g_load ?_; (refine st_val rfl (r_loadElem1 (hT1.mono S.below) rfl ?_ ?_ rfl) ?_; (first | omega | (simp <;> omega)); (first | omega | (simp <;> omega)))) | (refine g_callV ?_; first | (refine st_callV rfl (r_call2 rfl rfl rfl) (same_is (S.rdRow (D := fGClaim) (i := 0) rfl) (S.rdRow (D := fGClaim) (i := 1) rfl) (by omega) (by omega) (decide_eq_true rfl)) ?_; intro w hb; replace S := S.grow hb; clear hb) | (refine st_callV rfl (r_call2 rfl rfl rfl) (same_is (S.rdRow (D := fGClaim) (i := 2) rfl) (S.rdRow (D := fGClaim) (i := 3) rfl) (by omega) (by omega) (decide_eq_true rfl)) ?_; intro w hb; replace S := S.grow hb; clear hb)) | (refine wl_split rfl rfl (fun h => ?_) (fun h => ?_) <;> (fail_if_success (have hh : true = true := h)) <;> (fail_if_success (have hh : false = false := h)) <;> (try simp only [decide_eq_true_eq, decide_eq_false_iff_not, Bool.not_eq_true', Bool.not_eq_false', Int.not_lt, Int.not_le] at h) <;> (try (exfalso; omega)) <;> (try (exfalso; exact absurd trivial h; done))))
        refine st_callR rfl (r_call3 rfl rfl rfl rfl) (owed_is hci (hl1.mono S.below) (by omega) hOe hEe) ?_
        rintro _ w hb ⟨v5, rfl, hrow⟩
        replace S := S.new hb hrow
        clear hb hrow
        repeat' (first | refine WP_seq ?_ | refine WP_region ?_ | refine wl_nil ?_ | refine then_normal ?_ | (refine g_move ?_; refine st_move rfl ?_) | (refine g_assign ?_; refine st_assign rfl ?_) | (refine g_extract ?_; refine st_val rfl (r_extract rfl rfl) ?_) | (refine g_indexAddr ?_; (refine st_val rfl (r_indexAddr (hT1.mono S.below) rfl rfl ?_ ?_) ?_; (first | omega | (simp <;> omega)); (first | omega | (simp <;> omega)))) | (refine g_load ?_; (refine st_val rfl (r_loadElem1 (hT1.mono S.below) rfl ?_ ?_ rfl) ?_; (first | omega | (simp <;> omega)); (first | omega | (simp <;> omega)))))
        refine st_callR rfl (r_call3 rfl rfl rfl rfl) (owedR_is hci (hl1.mono S.below) (by omega) hOe hEe) ?_
        rintro _ w hb ⟨v6, rfl, hrow⟩
        replace S := S.new hb hrow
        clear hb hrow
        repeat' (first | refine WP_seq ?_ | refine WP_region ?_ | refine wl_nil ?_ | refine then_normal ?_ | (refine g_move ?_; refine st_move rfl ?_) | (refine g_assign ?_; refine st_assign rfl ?_) | (refine g_extract ?_; refine st_val rfl (r_extract rfl rfl) ?_) | (refine g_indexAddr ?_; (refine st_val rfl (r_indexAddr (hT1.mono S.below) rfl rfl ?_ ?_) ?_; (first | omega | (simp <;> omega)); (first | omega | (simp <;> omega)))) | (refine g_load ?_; (refine st_val rfl (r_loadElem1 (hT1.mono S.below) rfl ?_ ?_ rfl) ?_; (first | omega | (simp <;> omega)); (first | omega | (simp <;> omega)))))
        refine st_callR rfl (r_call3 rfl rfl rfl rfl) (totals_is hci (hl1.mono S.below) (by omega) hQe hEe) ?_
        rintro _ w hb ⟨v7, rfl, hrow⟩
        replace S := S.new hb hrow
        clear hb hrow
        repeat' (first | refine WP_seq ?_ | refine WP_region ?_ | refine wl_nil ?_ | refine then_normal ?_ | (refine g_move ?_; refine st_move rfl ?_) | (refine g_assign ?_; refine st_assign rfl ?_) | (refine g_extract ?_; refine st_val rfl (r_extract rfl rfl) ?_) | (refine g_indexAddr ?_; (refine st_val rfl (r_indexAddr (hT1.mono S.below) rfl rfl ?_ ?_) ?_; (first | omega | (simp <;> omega)); (first | omega | (simp <;> omega)))) | (refine g_load ?_; (refine st_val rfl (r_loadElem1 (hT1.mono S.below) rfl ?_ ?_ rfl) ?_; (first | omega | (simp <;> omega)); (first | omega | (simp <;> omega)))))
        refine st_callR rfl (r_call3 rfl rfl rfl rfl) (totalsR_is hci (hl1.mono S.below) (by omega) hQe hEe) ?_
        rintro _ w hb ⟨v8, rfl, hrow⟩
        replace S := S.new hb hrow
        clear hb hrow
        repeat' (first | refine WP_seq ?_ | refine WP_region ?_ | refine wl_nil ?_ | refine then_normal ?_ | (refine g_move ?_; refine st_move rfl ?_) | (refine g_assign ?_; refine st_assign rfl ?_) | (refine g_extract ?_; refine st_val rfl (r_extract rfl rfl) ?_) | (refine g_indexAddr ?_; (refine st_val rfl (r_indexAddr (hT1.mono S.below) rfl rfl ?_ ?_) ?_; (first | omega | (simp <;> omega)); (first | omega | (simp <;> omega)))) | (refine g_load ?_; (refine st_val rfl (r_loadElem1 (hT1.mono S.below) rfl ?_ ?_ rfl) ?_; (first | omega | (simp <;> omega)); (first | omega | (simp <;> omega)))))
        repeat' (first | refine WP_seq ?_ | refine WP_region ?_ | refine wl_nil ?_ | refine then_normal ?_ | (refine g_move ?_; refine st_move rfl ?_) | (refine g_assign ?_; refine st_assign rfl ?_) | (refine g_extract ?_; refine st_val rfl (r_extract rfl rfl) ?_) | (refine g_indexAddr ?_; (refine st_val rfl (r_indexAddr (hT1.mono S.below) rfl rfl ?_ ?_) ?_; (first | omega | (simp <;> omega)); (first | omega | (simp <;> omega)))) | (refine g_load ?_; (refine st_val rfl (r_loadElem1 (hT1.mono S.below) rfl ?_ ?_ rfl) ?_; (first | omega | (simp <;> omega)); (first | omega | (simp <;> omega)))) | (refine g_callV ?_; (refine st_callV rfl (r_call3 rfl rfl rfl rfl) (next_is hci (hl1.mono S.below) (by omega) hXe hBe) ?_; intro w hb; replace S := S.grow hb; clear hb)) | (refine g_alloc ?_; refine st_valE rfl (r_alloc S) ?_; rintro _ w ⟨b, rfl, -, S'⟩; replace S := S'; clear S') | (refine g_store ?_; first | (refine st_skipE rfl (r_storeVar (i := 0) S rfl rfl rfl rfl (of_decide_eq_true rfl) (of_decide_eq_true rfl)) ?_; intro w S'; replace S := S'; clear S') | (refine st_skipE rfl (r_storeVar (i := 1) S rfl rfl rfl rfl (of_decide_eq_true rfl) (of_decide_eq_true rfl)) ?_; intro w S'; replace S := S'; clear S') | (refine st_skipE rfl (r_storeVar (i := 2) S rfl rfl rfl rfl (of_decide_eq_true rfl) (of_decide_eq_true rfl)) ?_; intro w S'; replace S := S'; clear S') | (refine st_skipE rfl (r_storeVar (i := 3) S rfl rfl rfl rfl (of_decide_eq_true rfl) (of_decide_eq_true rfl)) ?_; intro w S'; replace S := S'; clear S') | (refine st_skipE rfl (r_storeVar (i := 4) S rfl rfl rfl rfl (of_decide_eq_true rfl) (of_decide_eq_true rfl)) ?_; intro w S'; replace S := S'; clear S') | (refine st_skipE rfl (r_storeVar (i := 5) S rfl rfl rfl rfl (of_decide_eq_true rfl) (of_decide_eq_true rfl)) ?_; intro w S'; replace S := S'; clear S') | (refine st_skipE rfl (r_storeVar (i := 6) S rfl rfl rfl rfl (of_decide_eq_true rfl) (of_decide_eq_true rfl)) ?_; intro w S'; replace S := S'; clear S') | (refine st_skipE rfl (r_storeVar (i := 7) S rfl rfl rfl rfl (of_decide_eq_true rfl) (of_decide_eq_true rfl)) ?_; intro w S'; replace S := S'; clear S') | (refine st_skipE rfl (r_storeVar (i := 8) S rfl rfl rfl rfl (of_decide_eq_true rfl) (of_decide_eq_true rfl)) ?_; intro w S'; replace S := S'; clear S') | (refine st_skipE rfl (r_storeVar (i := 9) S rfl rfl rfl rfl (of_decide_eq_true rfl) (of_decide_eq_true rfl)) ?_; intro w S'; replace S := S'; clear S')))
        repeat' (first | refine WP_seq ?_ | refine WP_region ?_ | refine wl_nil ?_ | refine then_normal ?_ | refine inB_normal ?_ | refine WP_skip ?_ | (refine g_move ?_; refine st_move rfl ?_) | (refine g_assign ?_; refine st_assign rfl ?_) | (refine g_pick ?_; refine st_pickF rfl rfl ?_) | (refine g_b_add ?_; (refine st_val rfl (r_addN rfl rfl ?_ ?_) ?_; (first | omega | (simp <;> omega)); (first | omega | (simp <;> omega)))) | (refine g_b_neq ?_; first | refine st_val rfl (r_neq rfl rfl) ?_ | refine st_val rfl (neq39 rfl rfl) ?_ | refine st_val rfl (r_neqB rfl rfl) ?_) | (refine g_un ?_; refine st_val rfl (r_not rfl) ?_) | (refine g_extract ?_; refine st_val rfl (r_extract rfl rfl) ?_) | (refine g_load ?_; first | refine st_val rfl (r_loadVarA (i := 8) S rfl rfl rfl rfl) ?_ | refine st_val rfl (r_loadVarA (i := 9) S rfl rfl rfl rfl) ?_) | (refine g_callV ?_; first | (refine st_callV rfl (r_call3 rfl rfl rfl rfl) (nextR_is hci (hl1.mono S.below) (by omega) hXe hBe) ?_; intro w hb; replace S := S.grow hb; clear hb) | (refine st_callV rfl (r_call2 rfl rfl rfl) (ints_is (S.rdRow (D := fInt .i64) (i := 4) rfl) (S.rdRow (D := fInt .i64) (i := 5) rfl) (by omega) (by omega) (decide_eq_true rfl)) ?_; intro w hb; replace S := S.grow hb; clear hb) | (refine st_callV rfl (r_call2 rfl rfl rfl) (ints_is (S.rdRow (D := fInt .i64) (i := 6) rfl) (S.rdRow (D := fInt .i64) (i := 7) rfl) (by omega) (by omega) (decide_eq_true rfl)) ?_; intro w hb; replace S := S.grow hb; clear hb)) | (refine g_alloc ?_; refine st_valE rfl (r_alloc S) ?_; rintro _ w ⟨b, rfl, -, S'⟩; replace S := S'; clear S') | (refine g_store ?_; first | (refine st_skipE rfl (r_storeVar (i := 0) S rfl rfl rfl rfl (of_decide_eq_true rfl) (of_decide_eq_true rfl)) ?_; intro w S'; replace S := S'; clear S') | (refine st_skipE rfl (r_storeVar (i := 1) S rfl rfl rfl rfl (of_decide_eq_true rfl) (of_decide_eq_true rfl)) ?_; intro w S'; replace S := S'; clear S') | (refine st_skipE rfl (r_storeVar (i := 2) S rfl rfl rfl rfl (of_decide_eq_true rfl) (of_decide_eq_true rfl)) ?_; intro w S'; replace S := S'; clear S') | (refine st_skipE rfl (r_storeVar (i := 3) S rfl rfl rfl rfl (of_decide_eq_true rfl) (of_decide_eq_true rfl)) ?_; intro w S'; replace S := S'; clear S') | (refine st_skipE rfl (r_storeVar (i := 4) S rfl rfl rfl rfl (of_decide_eq_true rfl) (of_decide_eq_true rfl)) ?_; intro w S'; replace S := S'; clear S') | (refine st_skipE rfl (r_storeVar (i := 5) S rfl rfl rfl rfl (of_decide_eq_true rfl) (of_decide_eq_true rfl)) ?_; intro w S'; replace S := S'; clear S') | (refine st_skipE rfl (r_storeVar (i := 6) S rfl rfl rfl rfl (of_decide_eq_true rfl) (of_decide_eq_true rfl)) ?_; intro w S'; replace S := S'; clear S') | (refine st_skipE rfl (r_storeVar (i := 7) S rfl rfl rfl rfl (of_decide_eq_true rfl) (of_decide_eq_true rfl)) ?_; intro w S'; replace S := S'; clear S') | (refine st_skipE rfl (r_storeVar (i := 8) S rfl rfl rfl rfl (of_decide_eq_true rfl) (of_decide_eq_true rfl)) ?_; intro w S'; replace S := S'; clear S') | (refine st_skipE rfl (r_storeVar (i := 9) S rfl rfl rfl rfl (of_decide_eq_true rfl) (of_decide_eq_true rfl)) ?_; intro w S'; replace S := S'; clear S')) | (refine wl_split rfl rfl (fun h => ?_) (fun h => ?_) <;> (fail_if_success (have hh : true = true := h)) <;> (fail_if_success (have hh : false = false := h)) <;> (try simp only [decide_eq_true_eq, decide_eq_false_iff_not, Bool.not_eq_true', Bool.not_eq_false', Int.not_lt, Int.not_le] at h) <;> (try (exfalso; omega)) <;> (try (exfalso; exact absurd trivial h; done))) | (refine WP_cond rfl (fun h => ?_) (fun h => ?_) <;> (fail_if_success (have hh : true = true := h)) <;> (fail_if_success (have hh : false = false := h)) <;> (try simp only [decide_eq_true_eq, decide_eq_false_iff_not, Bool.not_eq_true', Bool.not_eq_false', Int.not_lt, Int.not_le] at h) <;> (try (exfalso; omega)) <;> (try (exfalso; exact absurd trivial h; done))))
        refine ⟨⟨_, ?_, t + 1, ⟨rfl, rfl, rfl, rfl, rfl, rfl, rfl, rfl, rfl, trivial⟩, (S0.join S).sub (List.sublist_append_left _ _), by omega, by omega, rfl⟩⟩
        omega
      · repeat' (first | refine WP_seq ?_ | refine WP_region ?_ | refine wl_nil ?_ | refine then_normal ?_ | refine inB_normal ?_ | refine then_exit ?_ | refine inB_here ?_ | refine WP_exit ?_ | (refine g_move ?_; refine st_move rfl ?_) | (refine g_assign ?_; refine st_assign rfl ?_) | (refine g_b_add ?_; (refine st_val rfl (r_addN rfl rfl ?_ ?_) ?_; (first | omega | (simp <;> omega)); (first | omega | (simp <;> omega)))) | (refine g_b_lss ?_; refine st_val rfl (r_lss rfl rfl) ?_) | (refine WP_cond rfl (fun h => ?_) (fun h => ?_) <;> (fail_if_success (have hh : true = true := h)) <;> (fail_if_success (have hh : false = false := h)) <;> (try simp only [decide_eq_true_eq, decide_eq_false_iff_not, Bool.not_eq_true', Bool.not_eq_false', Int.not_lt, Int.not_le] at h) <;> (try (exfalso; omega))))
        refine ⟨⟨_, ?_, k + 1, ⟨rfl, rfl, rfl, rfl, rfl, rfl, trivial⟩, S0, by omega, by omega, rfl⟩⟩
        omega
    · repeat' (first | refine WP_seq ?_ | refine WP_region ?_ | refine wl_nil ?_ | refine then_normal ?_ | refine inB_normal ?_ | refine then_exit ?_ | refine inB_here ?_ | refine WP_exit ?_ | (refine g_move ?_; refine st_move rfl ?_) | (refine g_assign ?_; refine st_assign rfl ?_) | (refine g_b_add ?_; (refine st_val rfl (r_addN rfl rfl ?_ ?_) ?_; (first | omega | (simp <;> omega)); (first | omega | (simp <;> omega)))) | (refine g_b_lss ?_; refine st_val rfl (r_lss rfl rfl) ?_) | (refine WP_cond rfl (fun h => ?_) (fun h => ?_) <;> (fail_if_success (have hh : true = true := h)) <;> (fail_if_success (have hh : false = false := h)) <;> (try simp only [decide_eq_true_eq, decide_eq_false_iff_not, Bool.not_eq_true', Bool.not_eq_false', Int.not_lt, Int.not_le] at h) <;> (try (exfalso; omega))))
      refine ⟨⟨_, ?_, i + 1, ⟨rfl, rfl, rfl, rfl, rfl, trivial⟩, S, by omega, by omega, rfl⟩⟩
      omega
  · repeat' (first | refine WP_seq ?_ | refine WP_region ?_ | refine wl_nil ?_ | refine then_normal ?_ | refine then_exit ?_ | refine inB_here ?_ | refine WP_ret ?_ | refine WP_exit ?_ | (refine g_move ?_; refine st_move rfl ?_) | (refine g_assign ?_; refine st_assign rfl ?_) | (refine g_b_lss ?_; refine st_val rfl (r_lss rfl rfl) ?_) | (refine WP_cond rfl (fun h => ?_) (fun h => ?_) <;> (fail_if_success (have hh : true = true := h)) <;> (fail_if_success (have hh : false = false := h)) <;> (try simp only [decide_eq_true_eq, decide_eq_false_iff_not, Bool.not_eq_true', Bool.not_eq_false', Int.not_lt, Int.not_le] at h) <;> (try (exfalso; omega))))
    exact end1 rfl rfl ⟨rfl, S.below⟩
end Go.Proofs.Ytcbidfedffegpaa
