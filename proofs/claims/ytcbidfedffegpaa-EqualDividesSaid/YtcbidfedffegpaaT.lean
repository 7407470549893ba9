import Derived.Test.YtcbidfedffegpaaS
namespace Go.Proofs.Ytcbidfedffegpaa
open Go Go.Gx Go.RowKit
set_option linter.unusedVariables false
set_option linter.unusedSimpArgs false
/-- What an appearance gives candidate k. -/
def wtA (k : Int) (a : GAppearance) : Int := if a.Candidate = k then worthA a else 0
def ctot (k : Int) : List GAppearance → Int
  | [] => 0
  | a :: r => wtA k a + ctot k r
theorem ctot_append (k : Int) : ∀ a b : List GAppearance, ctot k (a ++ b) = ctot k a + ctot k b
  | [], b => by simp [ctot]
  | x :: a, b => by simp only [List.cons_append, ctot, ctot_append k a b]; omega
theorem ctot_set (k : Int) : ∀ (l : List GAppearance) (i : Nat) (c x : GAppearance), l[i]? = some c → ctot k (l.set i x) = ctot k l - wtA k c + wtA k x
  | [], i, c, x, h => by simp at h
  | a :: l, 0, c, x, h => by simp at h; subst h; simp only [List.set_cons_zero, ctot]; omega
  | a :: l, i + 1, c, x, h => by
    have := ctot_set k l i c x (by simpa using h)
    simp only [List.set_cons_succ, ctot, this]; omega
theorem had_ctot {n : Int} {l : List GAppearance} {now : Int} (h : validA n l = true) (hat : ∀ j : Nat, j < l.length → (nth l (j : Int)).At ≤ now) {k : Nat} (hk : (k : Int) < n) : ∀ m : Nat, m ≤ l.length → nth (hadAt l now m) (k : Int) = ctot k (l.take m)
  | 0, _ => by
    have := valid_at h
    unfold nth hadAt; rw [Int.toNat_natCast, List.getD_eq_getElem?_getD, List.getElem?_replicate, if_pos (by omega)]; rfl
  | m + 1, hm => by
    have ih := had_ctot h hat hk m (by omega)
    have hv := valid_at h
    obtain ⟨h1, h2, h3, h4, h5⟩ := valid_el h (m := m) (by omega)
    have hg := nth_get (l := l) (i := (m : Int)) (by omega) (by omega)
    rw [Int.toNat_natCast] at hg
    have hlen := hadAt_len (l := l) (now := now) m
    rw [hadAt, if_pos (hat m (by omega)), List.take_add_one, hg, ctot_append, ← ih]
    show _ = _ + (wtA k (nth l (m : Int)) + 0)
    unfold wtA
    by_cases e : (nth l (m : Int)).Candidate = (k : Int)
    · rw [if_pos e, ← e, nth_set_self h1.1 (by omega)]; omega
    · rw [if_neg e, nth_set_ne (by omega)]; omega
theorem tot_ctot {n : Int} {l : List GAppearance} {now : Int} (h : okA n l now = true) (hat : ∀ j : Nat, j < l.length → (nth l (j : Int)).At ≤ now) {k : Nat} (hk : (k : Int) < n) : nth (totI n l now) (k : Int) = ctot k l := by
  have hv : validA n l = true := by unfold okA at h; simp only [Bool.and_eq_true] at h; exact h.1
  rw [tot_nth h hk, had_ctot hv hat hk l.length (Nat.le_refl _), List.take_length]
theorem tot_same {n : Int} {l m : List GAppearance} {now now' : Int} (h : okA n l now = true) (h' : okA n m now' = true) (hat : ∀ j : Nat, j < l.length → (nth l (j : Int)).At ≤ now) (hat' : ∀ j : Nat, j < m.length → (nth m (j : Int)).At ≤ now') (hc : ∀ k : Nat, (k : Int) < n → ctot k l = ctot k m) : totI n l now = totI n m now' := by
  have h1 := tot_len h
  have h2 := tot_len h'
  refine ext_nth (by omega) fun j j0 j1 => ?_
  have e : j = (j.toNat : Int) := by omega
  rw [e, tot_ctot h hat (by omega), tot_ctot h' hat' (by omega), hc _ (by omega)]
theorem owe_same {n : Int} {l m : List GAppearance} {now now' : Int} (h : okA n l now = true) (h' : okA n m now' = true) (ht : totI n l now = totI n m now') : oweI n l now = oweI n m now' := by
  have h1 := owe_len h
  have h2 := owe_len h'
  have h3 := levels_plain h
  have h4 := levels_plain h'
  refine ext_nth (by omega) fun j j0 j1 => ?_
  have e : j = (j.toNat : Int) := by omega
  have a := h3 j.toNat (by omega)
  have b := h4 j.toNat (by omega)
  rw [← e] at a b
  rw [← ht] at b
  omega
/-- The same appearances, exchanged but for their seconds. -/
structure Swp (n : Int) (l m : List GAppearance) : Prop where
  len : m.length = l.length
  el : ∀ j : Nat, j < l.length → (nth m (j : Int)).At = (nth l (j : Int)).At ∧ (0 ≤ (nth m (j : Int)).Candidate ∧ (nth m (j : Int)).Candidate < n) ∧ (1 ≤ (nth m (j : Int)).Seconds ∧ (nth m (j : Int)).Seconds ≤ 3600) ∧ (1 ≤ (nth m (j : Int)).Weight ∧ (nth m (j : Int)).Weight ≤ 10)
  tot : ∀ k : Int, ctot k m = ctot k l
theorem Swp.refl {n : Int} {l : List GAppearance} (h : validA n l = true) : Swp n l l := ⟨rfl, fun j hj => by
  obtain ⟨h1, h2, h3, h4, h5⟩ := valid_el h hj
  exact ⟨rfl, h1, h3, h4⟩, fun _ => rfl⟩
theorem Swp.valid {n : Int} {l m : List GAppearance} (h : validA n l = true) (s : Swp n l m) : validA n m = true := by
  have hv := valid_at h
  refine valid_of ⟨hv.1, hv.2.1⟩ (by rw [s.len]; exact hv.2.2.1) (all_range fun j hj => ?_)
  rw [s.len] at hj
  have e := s.el j hj
  obtain ⟨h1, h2, h3, h4, h5⟩ := valid_el h hj
  have hp : prevA m (j : Int) = prevA l (j : Int) := by
    unfold prevA
    split
    · rfl
    · rename_i h0
      have := (s.el (j - 1) (by omega)).1
      rw [show ((j : Int) - 1) = ((j - 1 : Nat) : Int) by omega]; exact this
  unfold okAt ok1
  rw [decide_eq_true_eq, hp]
  omega
theorem nthA_set_self {l : List GAppearance} {c : Nat} {x : GAppearance} (h : c < l.length) : nth (l.set c x) (c : Int) = x := by
  unfold nth; rw [Int.toNat_natCast, List.getD_eq_getElem?_getD, List.getElem?_set_self h]; rfl
theorem nthA_set_ne {l : List GAppearance} {c k : Nat} {x : GAppearance} (h : c ≠ k) : nth (l.set c x) (k : Int) = nth l (k : Int) := by
  unfold nth; rw [Int.toNat_natCast, List.getD_eq_getElem?_getD, List.getD_eq_getElem?_getD, List.getElem?_set_ne h]
def swA (m : List GAppearance) (a b : Int) : List GAppearance := (m.set a.toNat ⟨(nth m b).Candidate, (nth m a).At, (nth m b).Seconds, (nth m b).Weight⟩).set b.toNat ⟨(nth m a).Candidate, (nth m b).At, (nth m a).Seconds, (nth m a).Weight⟩
theorem Swp.swap {n : Int} {l m : List GAppearance} (s : Swp n l m) {a b : Int} (ha : 0 ≤ a ∧ a < m.length) (hb : 0 ≤ b ∧ b < m.length) : Swp n l (swA m a b) := by
  obtain ⟨i, rfl⟩ : ∃ i : Nat, a = (i : Int) := ⟨a.toNat, by omega⟩
  obtain ⟨j, rfl⟩ : ∃ j : Nat, b = (j : Int) := ⟨b.toNat, by omega⟩
  have hi : i < m.length := by omega
  have hj : j < m.length := by omega
  unfold swA
  simp only [Int.toNat_natCast]
  have hlen := s.len
  have ei := s.el i (by omega)
  have ej := s.el j (by omega)
  refine ⟨by rw [List.length_set, List.length_set]; exact hlen, fun k hk => ?_, fun k => ?_⟩
  · by_cases h1 : j = k
    · subst h1
      rw [nthA_set_self (by rw [List.length_set]; omega)]
      exact ⟨ej.1, ei.2⟩
    · rw [nthA_set_ne h1]
      by_cases h2 : i = k
      · subst h2
        rw [nthA_set_self hi]
        exact ⟨ei.1, ej.2⟩
      · rw [nthA_set_ne h2]; exact s.el k hk
  · have gi := nth_get (l := m) (i := (i : Int)) (by omega) (by omega)
    have gj := nth_get (l := m) (i := (j : Int)) (by omega) (by omega)
    rw [Int.toNat_natCast] at gi gj
    have hw : ∀ x y : GAppearance, wtA k ⟨x.Candidate, y.At, x.Seconds, x.Weight⟩ = wtA k x := fun _ _ => rfl
    obtain ⟨c, hc, hcw⟩ : ∃ c, (m.set i ⟨(nth m (j : Int)).Candidate, (nth m (i : Int)).At, (nth m (j : Int)).Seconds, (nth m (j : Int)).Weight⟩)[j]? = some c ∧ wtA k c = wtA k (nth m (j : Int)) := by
      by_cases h : i = j
      · subst h; exact ⟨_, List.getElem?_set_self hi, hw _ _⟩
      · exact ⟨_, by rw [List.getElem?_set_ne h]; exact gj, rfl⟩
    have w1 := hw (nth m (j : Int)) (nth m (i : Int))
    have w2 := hw (nth m (i : Int)) (nth m (j : Int))
    rw [ctot_set k _ j c _ hc, ctot_set k m i _ _ gi, hcw, s.tot k]; omega
def okA2 (x : GArr2Int) : Prop := inI x.a0 ∧ inI x.a1
set_option maxHeartbeats 4000000 in
theorem orders_spec {n : Int} {v vt : Value} {xs : List GArr4Int} {ts : List GArr2Int} {w0 : World} (hn : inI n) (hr : Rd fGArr4Int.ty w0 v xs) (hx : ∀ x ∈ xs, okA4 x) (hl : xs.length ≤ maxLen) (hr2 : Rd fGArr2Int.ty w0 vt ts) (hx2 : ∀ x ∈ ts, okA2 x) (hl2 : ts.length ≤ maxLen) :
    CallsV Try.prog 5 #[.int .i64 n, v, vt] w0 (.bool true) := by
  have S := St.start w0
  have hcn := cntI_range n
  have hml := madeA_len n xs
  have hvd := madeA_valid n xs
  obtain ⟨A0, c0, rfl⟩ := hr.len
  obtain ⟨A2, c2, rfl⟩ := hr2.len
  simp only [maxLen] at hl2
  have hn' := hn
  unfold inI at hn'
  refine CallsV.mk ?_
  refine calls_enter Try.func5 rfl (by intro _ h; first | exact nomatch h.1 | (obtain ⟨_, h, _⟩ := h; exact nomatch h)) Try.ntmps5 rfl ?_
  repeat' (first | refine WP_seq ?_ | refine WP_region ?_ | refine wl_nil ?_ | refine then_normal ?_ | refine WP_skip ?_ | refine WP_condF rfl ?_ | (refine g_move ?_; refine st_move rfl ?_) | (refine g_assign ?_; refine st_assign rfl ?_) | (refine g_un ?_; refine st_val rfl (r_not rfl) ?_) | (refine g_callV ?_; (refine st_callV rfl (r_call0 rfl) (sane_spec) ?_; intro w hb; replace S := S.grow hb; clear hb)))
  refine st_callR rfl (r_call2 rfl rfl rfl) (made_run hn (hr.mono S.below) hx hl) ?_
  rintro vl w hb hrow
  replace S := S.new hb hrow
  clear hb hrow
  repeat' (first | refine WP_seq ?_ | refine WP_region ?_ | refine wl_nil ?_ | refine then_normal ?_ | (refine g_move ?_; refine st_move rfl ?_) | (refine g_assign ?_; refine st_assign rfl ?_))
  refine st_callR rfl (r_call2 rfl rfl rfl) (made_run hn (hr.mono S.below) hx hl) ?_
  rintro vm w hb hrow
  replace S := S.new hb hrow
  clear hb hrow
  generalize madeA n xs = l at *
  have hat := fun j (hj : j < l.length) => (valid_el hvd hj).2.1.2
  obtain ⟨Al, cl, hvl⟩ := (S.rdRow (D := fGAppearance) (i := 0) rfl).len
  subst hvl
  obtain ⟨Am, cm, hvm⟩ := (S.rdRow (D := fGAppearance) (i := 1) rfl).len
  subst hvm
  repeat' (first | refine WP_seq ?_ | refine WP_region ?_ | refine wl_nil ?_ | refine then_normal ?_ | refine WP_block ?_ | (refine g_assign ?_; refine st_assign rfl ?_))
  refine WP_loop (fun k σ w1 => ∃ (i : Nat) (m : List GAppearance), Has σ [(0, .int .i64 n), (2, .slice A2 ts.length c2), (8, .slice Al l.length cl), (9, .slice Am l.length cm), (10, .int .i64 (i : Int))] ∧ St w0 w1 [rowOb fGAppearance 49 (.slice Al l.length cl) l, rowOb fGAppearance 49 (.slice Am l.length cm) m] ∧ Swp (cntI n) l m ∧ i ≤ 20 ∧ i ≤ ts.length ∧ k = 20 - i) 20 ⟨0, l, ⟨rfl, rfl, rfl, rfl, rfl, trivial⟩, S, Swp.refl hvd, by omega, by omega, by omega⟩ ?_
  clear S
  rintro k σ w1 ⟨i, m, hs', S, hsw, hi1, hi2, rfl⟩
  refine WP_has hs' ?_
  have hlen := hsw.len
  by_cases hgo : i < ts.length ∧ i < 20 ∧ 0 < l.length
  · obtain ⟨hi, hi9, hl0⟩ := hgo
    have hg := nth_get (l := ts) (i := (i : Int)) (by omega) (by omega)
    obtain ⟨x0, x1⟩ := hx2 _ (List.mem_of_getElem? hg)
    unfold inI at x0 x1
    have hp0 := pickI_range (c := (nth ts (i : Int)).a0) (n := (l.length : Int)) (by omega)
    have hp1 := pickI_range (c := (nth ts (i : Int)).a1) (n := (l.length : Int)) (by omega)
    repeat' (first | refine WP_seq ?_ | refine WP_region ?_ | refine wl_nil ?_ | refine then_normal ?_ | refine WP_skip ?_ | refine WP_block ?_ | (refine g_move ?_; refine st_move rfl ?_) | (refine g_assign ?_; refine st_assign rfl ?_) | (refine g_pick ?_; refine st_pickT rfl rfl ?_) | (refine g_b_lss ?_; refine st_val rfl (r_lss rfl rfl) ?_) | (refine g_b_gtr ?_; refine st_val rfl (r_gtr rfl rfl) ?_) | (refine g_build ?_; refine st_val rfl (bd49_0_1_2_3 rfl rfl rfl rfl) ?_) | (refine g_c_len ?_; refine st_val rfl (r_lenSlice rfl) ?_) | (refine g_fieldAddr ?_; refine st_val rfl (r_fieldAddrL rfl) ?_) | (refine g_indexAddr ?_; first | (refine st_val rfl (r_indexAddr (hr2.mono S.below) rfl rfl ?_ ?_) ?_; (first | omega | (simp <;> omega)); (first | omega | (simp <;> omega))) | (refine st_val rfl (r_indexAddr (S.rdRow (D := fGAppearance) (i := 1) rfl) rfl rfl ?_ ?_) ?_; (first | omega | (simp <;> omega)); (first | omega | (simp <;> omega))) | (refine st_val rfl (r_indexAddrArrE rfl rfl ?_ ?_) ?_; (first | omega | (simp <;> omega)); (first | omega | (simp <;> omega)))) | (refine g_load ?_; first | (refine st_val rfl (r_loadElem1 (hr2.mono S.below) rfl ?_ ?_ rfl) ?_; (first | omega | (simp <;> omega)); (first | omega | (simp <;> omega))) | (refine st_val rfl (r_loadElemF (hr2.mono S.below) rfl ?_ ?_ rfl) ?_; (first | omega | (simp <;> omega)); (first | omega | (simp <;> omega))) | (refine st_val rfl (r_loadElem (S.rdRow (D := fGAppearance) (i := 1) rfl) rfl ?_ ?_) ?_; (first | omega | (simp <;> omega)); (first | omega | (simp <;> omega))) | refine st_val rfl (r_loadVar (i := 2) S rfl rfl rfl) ?_ | refine st_val rfl (r_loadVar (i := 3) S rfl rfl rfl) ?_) | (refine g_callV ?_; (refine st_callV rfl (r_call2 rfl rfl rfl) (pick_spec (by omega) (by omega) (by omega)) ?_; intro w hb; replace S := S.grow hb; clear hb)) | (refine g_alloc ?_; refine st_valE rfl (r_alloc S) ?_; rintro _ w ⟨b, rfl, -, S'⟩; replace S := S'; clear S') | (refine g_store ?_; first | (refine st_skipE rfl (r_storeVar (i := 0) S rfl rfl rfl rfl (of_decide_eq_true rfl) (of_decide_eq_true rfl)) ?_; intro w S'; replace S := S'; clear S') | (refine st_skipE rfl (r_storeVar (i := 1) S rfl rfl rfl rfl (of_decide_eq_true rfl) (of_decide_eq_true rfl)) ?_; intro w S'; replace S := S'; clear S') | (refine st_skipE rfl (r_storeVar (i := 2) S rfl rfl rfl rfl (of_decide_eq_true rfl) (of_decide_eq_true rfl)) ?_; intro w S'; replace S := S'; clear S') | (refine st_skipE rfl (r_storeVar (i := 3) S rfl rfl rfl rfl (of_decide_eq_true rfl) (of_decide_eq_true rfl)) ?_; intro w S'; replace S := S'; clear S')) | (refine wl_split rfl rfl (fun h => ?_) (fun h => ?_) <;> (fail_if_success (have hh : true = true := h)) <;> (fail_if_success (have hh : false = false := h)) <;> (try simp only [decide_eq_true_eq, decide_eq_false_iff_not, Bool.not_eq_true', Bool.not_eq_false', Int.not_lt, Int.not_le] at h) <;> (try (exfalso; omega))) | (refine WP_cond rfl (fun h => ?_) (fun h => ?_) <;> (fail_if_success (have hh : true = true := h)) <;> (fail_if_success (have hh : false = false := h)) <;> (try simp only [decide_eq_true_eq, decide_eq_false_iff_not, Bool.not_eq_true', Bool.not_eq_false', Int.not_lt, Int.not_le] at h) <;> (try (exfalso; omega))))
    generalize hA : pickI (nth ts (i : Int)).a0 (l.length : Int) = a at *
    generalize hB : pickI (nth ts (i : Int)).a1 (l.length : Int) = b at *
    refine g_store ?_
    refine st_skipE rfl (r_storeElem (i := 1) (D := fGAppearance) (x := ⟨(nth m b).Candidate, (nth m a).At, (nth m b).Seconds, (nth m b).Weight⟩) (j := a) S rfl rfl rfl rfl (by intro u hu; simp [fGAppearance, GAppearance.enc] at hu; rcases hu with rfl | rfl | rfl | rfl <;> rfl) (by omega) (by omega)) ?_
    intro w S'; replace S := S'; clear S'
    repeat' (first | refine WP_region ?_ | refine wl_nil ?_ | refine then_normal ?_ | (refine g_move ?_; refine st_move rfl ?_) | (refine g_build ?_; refine st_val rfl (bd49_0_1_2_3 rfl rfl rfl rfl) ?_) | (refine g_fieldAddr ?_; refine st_val rfl (r_fieldAddrL rfl) ?_) | (refine g_indexAddr ?_; (refine st_val rfl (r_indexAddr (S.rdRow (D := fGAppearance) (i := 1) rfl) rfl rfl ?_ ?_) ?_; (first | omega | (simp <;> omega)); (first | omega | (simp <;> omega)))) | (refine g_load ?_; first | refine st_val rfl (r_loadVar (i := 2) S rfl rfl rfl) ?_ | refine st_val rfl (r_loadVar (i := 3) S rfl rfl rfl) ?_))
    refine g_store ?_
    refine st_skipE rfl (r_storeElem (i := 1) (D := fGAppearance) (x := ⟨(nth m a).Candidate, (nth m b).At, (nth m a).Seconds, (nth m a).Weight⟩) (j := b) S rfl rfl rfl rfl (by intro u hu; simp [fGAppearance, GAppearance.enc] at hu; rcases hu with rfl | rfl | rfl | rfl <;> rfl) (by omega) (by rw [List.length_set]; omega)) ?_
    intro w S'; replace S := S'.keep [true, true, false, false]; clear S'
    repeat' (first | refine WP_region ?_ | refine wl_nil ?_ | refine then_normal ?_ | refine inB_normal ?_ | (refine g_move ?_; refine st_move rfl ?_) | (refine g_assign ?_; refine st_assign rfl ?_) | (refine g_b_add ?_; (refine st_val rfl (r_addN rfl rfl ?_ ?_) ?_; (first | omega | (simp <;> omega)); (first | omega | (simp <;> omega)))))
    refine ⟨⟨_, ?_, i + 1, swA m a b, ⟨rfl, rfl, rfl, rfl, rfl, trivial⟩, S, hsw.swap (by omega) (by omega), by omega, by omega, rfl⟩⟩
    omega
  · have hstop : ts.length ≤ i ∨ 20 ≤ i ∨ l.length ≤ 0 := by omega
    have hok : okA (cntI n) l 10000000 = true := okA_of hvd (by omega) (by omega)
    have hok2 : okA (cntI n) m 10000000 = true := okA_of (hsw.valid hvd) (by omega) (by omega)
    have he := err_of hok
    have he2 := err_of hok2
    have hoe : oweI (cntI n) l 10000000 = oweI (cntI n) m 10000000 := owe_same hok hok2 (tot_same hok hok2 hat (fun j hj => by rw [hlen] at hj; rw [(hsw.el j hj).1]; exact hat j hj) (fun k _ => (hsw.tot k).symm))
    have hol := owe_len hok
    generalize hoo : oweI (cntI n) l 10000000 = oo at *
    repeat' (first | refine WP_seq ?_ | refine WP_region ?_ | refine wl_nil ?_ | refine then_normal ?_ | refine then_exit ?_ | refine inB_here ?_ | refine WP_exit ?_ | refine WP_condF rfl ?_ | (refine g_guard ?_; refine st_off rfl ?_) | (refine g_move ?_; refine st_move rfl ?_) | (refine g_pick ?_; first | refine st_pickT rfl rfl ?_ | refine st_pickF rfl rfl ?_) | (refine g_b_lss ?_; refine st_val rfl (r_lss rfl rfl) ?_) | (refine g_b_gtr ?_; refine st_val rfl (r_gtr rfl rfl) ?_) | (refine g_c_len ?_; refine st_val rfl (r_lenSlice rfl) ?_) | (refine g_callV ?_; (refine st_callV rfl (r_call1 rfl rfl) (count_spec (by omega) (by omega)) ?_; intro w hb; replace S := S.grow hb; clear hb)) | (refine wl_split rfl rfl (fun h => ?_) (fun h => ?_) <;> (fail_if_success (have hh : true = true := h)) <;> (fail_if_success (have hh : false = false := h)) <;> (try simp only [decide_eq_true_eq, decide_eq_false_iff_not, Bool.not_eq_true', Bool.not_eq_false', Int.not_lt, Int.not_le] at h) <;> (try (exfalso; omega))) | (refine WP_cond rfl (fun h => ?_) (fun h => ?_) <;> (fail_if_success (have hh : true = true := h)) <;> (fail_if_success (have hh : false = false := h)) <;> (try simp only [decide_eq_true_eq, decide_eq_false_iff_not, Bool.not_eq_true', Bool.not_eq_false', Int.not_lt, Int.not_le] at h) <;> (try (exfalso; omega))))
    all_goals
      refine st_callR rfl (r_call3 rfl rfl rfl rfl) (owed_is (by omega) (S.rdRow (D := fGAppearance) (i := 0) rfl) (by omega) hoo he) ?_
      rintro _ w hb ⟨vo, rfl, hrow⟩
      replace S := S.new hb hrow
      clear hb hrow
      obtain ⟨Ao, co, hvo⟩ := (S.rdRow (D := fInt .i64) (i := 2) rfl).len
      subst hvo
      repeat' (first | refine WP_seq ?_ | refine WP_region ?_ | refine wl_nil ?_ | refine then_normal ?_ | (refine g_move ?_; refine st_move rfl ?_) | (refine g_assign ?_; refine st_assign rfl ?_) | (refine g_extract ?_; refine st_val rfl (r_extract rfl rfl) ?_) | (refine g_callV ?_; (refine st_callV rfl (r_call1 rfl rfl) (count_spec (by omega) (by omega)) ?_; intro w hb; replace S := S.grow hb; clear hb)))
      refine st_callR rfl (r_call3 rfl rfl rfl rfl) (owed_is (by omega) (S.rdRow (D := fGAppearance) (i := 1) rfl) (by omega) hoe.symm he2) ?_
      rintro _ w hb ⟨vp, rfl, hrow⟩
      replace S := S.new hb hrow
      clear hb hrow
      repeat' (first | refine WP_seq ?_ | refine WP_region ?_ | refine wl_nil ?_ | refine then_normal ?_ | refine WP_ret ?_ | (refine g_move ?_; refine st_move rfl ?_) | (refine g_assign ?_; refine st_assign rfl ?_) | (refine g_pick ?_; refine st_pickT rfl rfl ?_) | (refine g_b_eql ?_; refine st_val rfl (r_eql rfl rfl) ?_) | (refine g_extract ?_; refine st_val rfl (r_extract rfl rfl) ?_) | (refine g_c_len ?_; refine st_val rfl (r_lenSlice rfl) ?_) | (refine g_callV ?_; first | (refine st_callV rfl (r_call1 rfl rfl) (count_spec (by omega) (by omega)) ?_; intro w hb; replace S := S.grow hb; clear hb) | (refine st_callV rfl (r_call2 rfl rfl rfl) (ints_is (S.rdRow (D := fInt .i64) (i := 2) rfl) (S.rdRow (D := fInt .i64) (i := 3) rfl) (by omega) (by omega) (decide_eq_true rfl)) ?_; intro w hb; replace S := S.grow hb; clear hb)) | (refine wl_split rfl rfl (fun h => ?_) (fun h => ?_) <;> (fail_if_success (have hh : true = true := h)) <;> (fail_if_success (have hh : false = false := h)) <;> (try simp only [decide_eq_true_eq, decide_eq_false_iff_not, Bool.not_eq_true', Bool.not_eq_false', Int.not_lt, Int.not_le] at h) <;> (try (exfalso; omega))))
      exact end1 rfl rfl ⟨rfl, S.below⟩
end Go.Proofs.Ytcbidfedffegpaa
