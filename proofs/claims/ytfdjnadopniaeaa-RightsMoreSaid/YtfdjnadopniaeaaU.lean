import Derived.Test.YtfdjnadopniaeaaT
namespace Go.Proofs.Ytfdjnadopniaeaa
open Go Go.Gx Go.RowKit
open Kuhn
set_option linter.unusedVariables false
set_option linter.unusedSimpArgs false

def lackM : Option (List Nat) → List Int × Bool
  | some X => (iz X, true)
  | none => ([], false)
/-- What Lack answers. -/
def lackI (l : List GGrant) (us : List GUse) : List Int × Bool := if validG l = true ∧ validU us = true then lackM (lackP (prmN l us) (plyN l) l.length us.length) else ([], false)
theorem lackS_zero (perm : Nat → Nat → Bool) (plays : Nat → Nat) (m n : Nat) : lackS perm plays m n 0 = false := by
  unfold lackS
  refine lack_zero _ ?_
  have : elems n 0 = [] := by
    unfold elems
    rw [List.filter_eq_nil_iff]
    intro k hk
    unfold bit
    simp
  rw [this]; rfl
theorem elemsTo_succ (s k : Nat) : (List.range (k + 1)).filter (bit s) = if bit s k = true then (List.range k).filter (bit s) ++ [k] else (List.range k).filter (bit s) := by
  rw [List.range_succ, List.filter_append]
  by_cases h : bit s k = true
  · simp [h]
  · simp [h]
theorem first_is {a b : Int} {s t n : Nat} {c : Bool} {w : World} (ha : a = s) (hb : b = t) (hn : n ≤ 10) (hs : s < 2 ^ n) (ht : t < 2 ^ n) (h : firstL (List.range n) (bit s) (bit t) = c) : CallsV Try.prog 49 #[.int .i64 a, .int .i64 b] w (.bool c) := by
  have h60 : (2 : Nat) ^ n ≤ 2 ^ 60 := Nat.pow_le_pow_right (by decide) (by omega)
  rw [← h, ← first_ten hn hs ht]
  exact first_spec ha hb (Nat.lt_of_lt_of_le hs h60) (Nat.lt_of_lt_of_le ht h60)
/-- The best set so far. -/
def Best (perm : Nat → Nat → Bool) (plays : Nat → Nat) (m n s b : Nat) : Prop :=
  (b = 0 ∧ ∀ t, t < s → lackS perm plays m n t = false) ∨ (0 < b ∧ lackS perm plays m n b = true ∧ ∀ t, t < s → lackS perm plays m n t = true → bef n t b = false)
theorem Best.skip {perm : Nat → Nat → Bool} {plays : Nat → Nat} {m n s b : Nat} (h : Best perm plays m n s b) (hl : lackS perm plays m n s = false) : Best perm plays m n (s + 1) b := by
  rcases h with ⟨h0, h⟩ | ⟨h0, hb, h⟩
  · refine .inl ⟨h0, fun t ht => ?_⟩
    by_cases e : t = s
    · subst e; exact hl
    · exact h t (by omega)
  · refine .inr ⟨h0, hb, fun t ht hlt => ?_⟩
    by_cases e : t = s
    · subst e; rw [hl] at hlt; cases hlt
    · exact h t (by omega) hlt
theorem Best.keep {perm : Nat → Nat → Bool} {plays : Nat → Nat} {m n s b : Nat} (h : Best perm plays m n s b) (hb0 : b ≠ 0) (hl : bef n s b = false) : Best perm plays m n (s + 1) b := by
  rcases h with ⟨h0, h⟩ | ⟨h0, hb, h⟩
  · exact absurd h0 hb0
  · refine .inr ⟨h0, hb, fun t ht hlt => ?_⟩
    by_cases e : t = s
    · subst e; exact hl
    · exact h t (by omega) hlt
theorem Best.take {perm : Nat → Nat → Bool} {plays : Nat → Nat} {m n s b : Nat} (h : Best perm plays m n s b) (hs : 0 < s) (hl : lackS perm plays m n s = true) (hb : b = 0 ∨ bef n s b = true) : Best perm plays m n (s + 1) s := by
  refine .inr ⟨hs, hl, fun t ht hlt => ?_⟩
  by_cases e : t = s
  · subst e; exact bef_irr _ _
  · rcases h with ⟨h0, h⟩ | ⟨h0, hb', h⟩
    · rw [h t (by omega)] at hlt; cases hlt
    · rcases hb with hb | hb
      · omega
      · have := h t (by omega) hlt
        cases hx : bef n t s
        · rfl
        · rw [bef_trans hx hb] at this; cases this
theorem Best.fin {perm : Nat → Nat → Bool} {plays : Nat → Nat} {m n b : Nat} (h : Best perm plays m n (2 ^ n) b) : lackP perm plays m n = if b = 0 then none else some (elems n b) := by
  rcases h with ⟨h0, h⟩ | ⟨h0, hb, h⟩
  · rw [if_pos h0]; exact A_lackP.1 (A_bits.2 h)
  · rw [if_neg (by omega)]; exact best_is hb h
set_option maxRecDepth 20000 in
set_option maxHeartbeats 16000000 in
theorem lackR_run {l : List GGrant} {us : List GUse} {vl vu : Value} {w0 : World} (hr : Rd fGGrant.ty w0 vl l) (hr2 : Rd fGUse.ty w0 vu us) (hll : l.length ≤ 1000) (hul : us.length ≤ 1000000) :
    CallsR Try.prog 24 #[vl, vu] w0 fun v' w' => ∃ v1, v' = .tuple #[v1, .bool (lackI l us).2] ∧ NewRow (fInt .i64) 3 w0 w' v1 (lackI l us).1 := by
  have S := St.start w0
  have hl2 : l.length ≤ 1000000000 := by omega
  have hu2 : us.length ≤ 1000000000 := by omega
  obtain ⟨A0, c, rfl⟩ := hr.len
  obtain ⟨A2, cu, rfl⟩ := hr2.len
  refine CallsR.mk ?_
  refine calls_enter Try.func24 rfl (by intro _ h; first | exact nomatch h.1 | (obtain ⟨_, h, _⟩ := h; exact nomatch h)) Try.ntmps24 rfl ?_
  by_cases hl : validG l = true
  · by_cases hu : validU us = true
    · have hl12 : l.length ≤ 12 := by unfold validG at hl; simp at hl; omega
      have hu10 : us.length ≤ 10 := by unfold validU at hu; simp at hu; omega
      have hpw : 2 ^ us.length ≤ 2 ^ 10 := Nat.pow_le_pow_right (by decide) hu10
      have h0w : 0 < 2 ^ us.length := Nat.pow_pos (by decide)
      have hsh := shl1 hu10
      have h60 : (2 : Nat) ^ us.length ≤ 2 ^ 60 := Nat.pow_le_pow_right (by decide) (by omega)
      obtain ⟨M, hM⟩ : ∃ M, 2 ^ us.length = M := ⟨_, rfl⟩
      rw [hM] at hpw hsh h60 h0w
      repeat' (first | refine WP_seq ?_ | refine WP_region ?_ | refine wl_nil ?_ | refine then_normal ?_ | refine WP_skip ?_ | refine WP_block ?_ | refine WP_condF rfl ?_ | (refine g_move ?_; refine st_move rfl ?_) | (refine g_assign ?_; refine st_assign rfl ?_) | (refine g_pick ?_; refine st_pickF rfl rfl ?_) | (refine g_un ?_; refine st_val rfl (r_not rfl) ?_) | (refine g_callV ?_; first | (refine st_callV rfl (r_call1 rfl rfl) (validR_is (hr.mono S.below) hl2 hl) ?_; intro w hb; replace S := S.grow hb; clear hb) | (refine st_callV rfl (r_call1 rfl rfl) (validUsesR_is (hr2.mono S.below) hu2 hu) ?_; intro w hb; replace S := S.grow hb; clear hb)))
      refine WP_loop (fun k σ w1 => ∃ (s b : Nat), Has σ [(0, .slice A0 l.length c), (1, .slice A2 us.length cu), (6, .int .i64 b), (7, .int .i64 s)] ∧ St w0 w1 [] ∧ 0 < s ∧ s ≤ M ∧ b < M ∧ k = M - s ∧ Best (prmN l us) (plyN l) l.length us.length s b) (M - 1) ⟨1, 0, ⟨rfl, rfl, rfl, rfl, trivial⟩, S, by omega, by omega, by omega, by omega, .inl ⟨rfl, fun t ht => by rw [show t = 0 by omega]; exact lackS_zero _ _ _ _⟩⟩ ?_
      clear S
      rintro k σ w1 ⟨s, b, hsl, S, hs0, hs, hbM, rfl, hB⟩
      refine WP_has hsl ?_
      by_cases hlt : s < M
      · have hs2 : s < 2 ^ us.length := by rw [hM]; exact hlt
        have hb2 : b < 2 ^ us.length := by rw [hM]; exact hbM
        have hps := popc_size _ _ hs2
        have hpb := popc_size _ _ hb2
        have hbef : bef us.length s b = (decide (popc s < popc b) || (decide (popc s = popc b) && firstL (List.range us.length) (bit s) (bit b))) := by rw [hps, hpb]; rfl
        repeat' (first | refine WP_seq ?_ | refine WP_region ?_ | refine wl_nil ?_ | refine then_normal ?_ | (refine g_move ?_; refine st_move rfl ?_) | (refine g_b_lss ?_; refine st_val rfl (r_lss rfl rfl) ?_) | (refine g_b_shl ?_; (refine st_val rfl (r_shl rfl rfl ?_) ?_; (first | omega | (simp <;> omega)))) | (refine g_c_len ?_; refine st_val rfl (r_lenSlice rfl) ?_))
        refine WP_cond rfl (fun _ => ?_) (fun h => absurd (of_decide_eq_false h) (by omega))
        repeat' (first | refine WP_seq ?_ | refine WP_region ?_ | refine then_normal ?_ | refine WP_skip ?_ | refine WP_block ?_ | (refine g_move ?_; refine st_move rfl ?_))
        refine st_callR rfl (r_call1 rfl rfl) (plays_spec (hr.mono S.below) hll) ?_
        rintro vp w hbw hrow; replace S := S.new hbw hrow; clear hbw hrow
        by_cases c1 : lackS (prmN l us) (plyN l) l.length us.length s = true
        · have c1' : lackS (prmN l us) (plsN (playsL l)) l.length us.length s = true := by rw [plsN_playsL]; exact c1
          by_cases c2 : b = 0
          · repeat' (first | refine WP_region ?_ | refine wl_nil ?_ | refine then_normal ?_ | refine inB_normal ?_ | refine WP_condT rfl ?_ | (refine g_guard ?_; refine st_off rfl ?_) | (refine g_move ?_; refine st_move rfl ?_) | (refine g_assign ?_; refine st_assign rfl ?_) | (refine g_pick ?_; refine st_pickT rfl rfl ?_) | (refine g_b_add ?_; (refine st_val rfl (r_addN rfl rfl ?_ ?_) ?_; (first | omega | (simp <;> omega)); (first | omega | (simp <;> omega)))) | (refine g_b_eql ?_; refine st_val rfl (r_eql rfl rfl) ?_) | (refine g_callV ?_; (refine st_callV rfl (r_call4 rfl rfl rfl rfl rfl) (lacks_is (hr.mono S.below) (hr2.mono S.below) (S.rdRow (D := fInt .i64) (i := 0) rfl) hl hu (by simp [playsL]) (playsL_ok hl) rfl hs2 c1') ?_; intro w hb; replace S := S.grow hb; clear hb)) | (refine wl_split rfl rfl (fun h => ?_) (fun h => ?_) <;> (fail_if_success (have hh : true = true := h)) <;> (fail_if_success (have hh : false = false := h)) <;> (try simp only [decide_eq_true_eq, decide_eq_false_iff_not, Bool.not_eq_true', Bool.not_eq_false', Int.not_lt, Int.not_le] at h) <;> (try (exfalso; omega))))
            refine nextI.mk ⟨_, ?_, s + 1, s, ⟨rfl, rfl, rfl, rfl, trivial⟩, S.keep [false], by omega, by omega, by omega, rfl, hB.take hs0 c1 (.inl c2)⟩
            omega
          · by_cases c3 : popc s < popc b
            · repeat' (first | refine WP_region ?_ | refine wl_nil ?_ | refine then_normal ?_ | refine inB_normal ?_ | refine WP_condT rfl ?_ | (refine g_guard ?_; refine st_off rfl ?_) | (refine g_move ?_; refine st_move rfl ?_) | (refine g_assign ?_; refine st_assign rfl ?_) | (refine g_pick ?_; first | refine st_pickT rfl rfl ?_ | refine st_pickF rfl rfl ?_) | (refine g_b_add ?_; (refine st_val rfl (r_addN rfl rfl ?_ ?_) ?_; (first | omega | (simp <;> omega)); (first | omega | (simp <;> omega)))) | (refine g_b_eql ?_; refine st_val rfl (r_eql rfl rfl) ?_) | (refine g_b_lss ?_; refine st_val rfl (r_lss rfl rfl) ?_) | (refine g_callV ?_; first | (refine st_callV rfl (r_call4 rfl rfl rfl rfl rfl) (lacks_is (hr.mono S.below) (hr2.mono S.below) (S.rdRow (D := fInt .i64) (i := 0) rfl) hl hu (by simp [playsL]) (playsL_ok hl) rfl hs2 c1') ?_; intro w hb; replace S := S.grow hb; clear hb) | (refine st_callV rfl (r_call1 rfl rfl) (size_spec rfl (Nat.lt_of_lt_of_le hlt h60)) ?_; intro w hb; replace S := S.grow hb; clear hb) | (refine st_callV rfl (r_call1 rfl rfl) (size_spec rfl (Nat.lt_of_lt_of_le hbM h60)) ?_; intro w hb; replace S := S.grow hb; clear hb)) | (refine wl_split rfl rfl (fun h => ?_) (fun h => ?_) <;> (fail_if_success (have hh : true = true := h)) <;> (fail_if_success (have hh : false = false := h)) <;> (try simp only [decide_eq_true_eq, decide_eq_false_iff_not, Bool.not_eq_true', Bool.not_eq_false', Int.not_lt, Int.not_le] at h) <;> (try (exfalso; omega))))
              refine nextI.mk ⟨_, ?_, s + 1, s, ⟨rfl, rfl, rfl, rfl, trivial⟩, S.keep [false], by omega, by omega, by omega, rfl, hB.take hs0 c1 (.inr (by rw [hbef]; simp [c3]))⟩
              omega
            · by_cases c4 : popc s = popc b
              · cases c5 : firstL (List.range us.length) (bit s) (bit b)
                · repeat' (first | refine WP_region ?_ | refine wl_nil ?_ | refine then_normal ?_ | refine inB_normal ?_ | refine WP_skip ?_ | refine WP_condF rfl ?_ | (refine g_move ?_; refine st_move rfl ?_) | (refine g_assign ?_; refine st_assign rfl ?_) | (refine g_pick ?_; first | refine st_pickT rfl rfl ?_ | refine st_pickF rfl rfl ?_) | (refine g_b_add ?_; (refine st_val rfl (r_addN rfl rfl ?_ ?_) ?_; (first | omega | (simp <;> omega)); (first | omega | (simp <;> omega)))) | (refine g_b_eql ?_; refine st_val rfl (r_eql rfl rfl) ?_) | (refine g_b_lss ?_; refine st_val rfl (r_lss rfl rfl) ?_) | (refine g_callV ?_; first | (refine st_callV rfl (r_call4 rfl rfl rfl rfl rfl) (lacks_is (hr.mono S.below) (hr2.mono S.below) (S.rdRow (D := fInt .i64) (i := 0) rfl) hl hu (by simp [playsL]) (playsL_ok hl) rfl hs2 c1') ?_; intro w hb; replace S := S.grow hb; clear hb) | (refine st_callV rfl (r_call1 rfl rfl) (size_spec rfl (Nat.lt_of_lt_of_le hlt h60)) ?_; intro w hb; replace S := S.grow hb; clear hb) | (refine st_callV rfl (r_call1 rfl rfl) (size_spec rfl (Nat.lt_of_lt_of_le hbM h60)) ?_; intro w hb; replace S := S.grow hb; clear hb) | (refine st_callV rfl (r_call2 rfl rfl rfl) (first_is rfl rfl hu10 hs2 hb2 c5) ?_; intro w hb; replace S := S.grow hb; clear hb)) | (refine wl_split rfl rfl (fun h => ?_) (fun h => ?_) <;> (fail_if_success (have hh : true = true := h)) <;> (fail_if_success (have hh : false = false := h)) <;> (try simp only [decide_eq_true_eq, decide_eq_false_iff_not, Bool.not_eq_true', Bool.not_eq_false', Int.not_lt, Int.not_le] at h) <;> (try (exfalso; omega))))
                  refine nextI.mk ⟨_, ?_, s + 1, b, ⟨rfl, rfl, rfl, rfl, trivial⟩, S.keep [false], by omega, by omega, by omega, rfl, hB.keep c2 (by rw [hbef, c5]; simp [c3])⟩
                  omega
                · repeat' (first | refine WP_region ?_ | refine wl_nil ?_ | refine then_normal ?_ | refine inB_normal ?_ | refine WP_condT rfl ?_ | (refine g_move ?_; refine st_move rfl ?_) | (refine g_assign ?_; refine st_assign rfl ?_) | (refine g_pick ?_; first | refine st_pickT rfl rfl ?_ | refine st_pickF rfl rfl ?_) | (refine g_b_add ?_; (refine st_val rfl (r_addN rfl rfl ?_ ?_) ?_; (first | omega | (simp <;> omega)); (first | omega | (simp <;> omega)))) | (refine g_b_eql ?_; refine st_val rfl (r_eql rfl rfl) ?_) | (refine g_b_lss ?_; refine st_val rfl (r_lss rfl rfl) ?_) | (refine g_callV ?_; first | (refine st_callV rfl (r_call4 rfl rfl rfl rfl rfl) (lacks_is (hr.mono S.below) (hr2.mono S.below) (S.rdRow (D := fInt .i64) (i := 0) rfl) hl hu (by simp [playsL]) (playsL_ok hl) rfl hs2 c1') ?_; intro w hb; replace S := S.grow hb; clear hb) | (refine st_callV rfl (r_call1 rfl rfl) (size_spec rfl (Nat.lt_of_lt_of_le hlt h60)) ?_; intro w hb; replace S := S.grow hb; clear hb) | (refine st_callV rfl (r_call1 rfl rfl) (size_spec rfl (Nat.lt_of_lt_of_le hbM h60)) ?_; intro w hb; replace S := S.grow hb; clear hb) | (refine st_callV rfl (r_call2 rfl rfl rfl) (first_is rfl rfl hu10 hs2 hb2 c5) ?_; intro w hb; replace S := S.grow hb; clear hb)) | (refine wl_split rfl rfl (fun h => ?_) (fun h => ?_) <;> (fail_if_success (have hh : true = true := h)) <;> (fail_if_success (have hh : false = false := h)) <;> (try simp only [decide_eq_true_eq, decide_eq_false_iff_not, Bool.not_eq_true', Bool.not_eq_false', Int.not_lt, Int.not_le] at h) <;> (try (exfalso; omega))))
                  refine nextI.mk ⟨_, ?_, s + 1, s, ⟨rfl, rfl, rfl, rfl, trivial⟩, S.keep [false], by omega, by omega, by omega, rfl, hB.take hs0 c1 (.inr (by rw [hbef, c5]; simp [c4]))⟩
                  omega
              · repeat' (first | refine WP_region ?_ | refine wl_nil ?_ | refine then_normal ?_ | refine inB_normal ?_ | refine WP_skip ?_ | refine WP_condF rfl ?_ | (refine g_guard ?_; refine st_off rfl ?_) | (refine g_move ?_; refine st_move rfl ?_) | (refine g_assign ?_; refine st_assign rfl ?_) | (refine g_pick ?_; first | refine st_pickT rfl rfl ?_ | refine st_pickF rfl rfl ?_) | (refine g_b_add ?_; (refine st_val rfl (r_addN rfl rfl ?_ ?_) ?_; (first | omega | (simp <;> omega)); (first | omega | (simp <;> omega)))) | (refine g_b_eql ?_; refine st_val rfl (r_eql rfl rfl) ?_) | (refine g_b_lss ?_; refine st_val rfl (r_lss rfl rfl) ?_) | (refine g_callV ?_; first | (refine st_callV rfl (r_call4 rfl rfl rfl rfl rfl) (lacks_is (hr.mono S.below) (hr2.mono S.below) (S.rdRow (D := fInt .i64) (i := 0) rfl) hl hu (by simp [playsL]) (playsL_ok hl) rfl hs2 c1') ?_; intro w hb; replace S := S.grow hb; clear hb) | (refine st_callV rfl (r_call1 rfl rfl) (size_spec rfl (Nat.lt_of_lt_of_le hlt h60)) ?_; intro w hb; replace S := S.grow hb; clear hb) | (refine st_callV rfl (r_call1 rfl rfl) (size_spec rfl (Nat.lt_of_lt_of_le hbM h60)) ?_; intro w hb; replace S := S.grow hb; clear hb)) | (refine wl_split rfl rfl (fun h => ?_) (fun h => ?_) <;> (fail_if_success (have hh : true = true := h)) <;> (fail_if_success (have hh : false = false := h)) <;> (try simp only [decide_eq_true_eq, decide_eq_false_iff_not, Bool.not_eq_true', Bool.not_eq_false', Int.not_lt, Int.not_le] at h) <;> (try (exfalso; omega))))
                refine nextI.mk ⟨_, ?_, s + 1, b, ⟨rfl, rfl, rfl, rfl, trivial⟩, S.keep [false], by omega, by omega, by omega, rfl, hB.keep c2 (by rw [hbef]; simp [c3, c4])⟩
                omega
        · have c1n : lackS (prmN l us) (plyN l) l.length us.length s = false := Bool.eq_false_iff.2 c1
          have c1' : lackS (prmN l us) (plsN (playsL l)) l.length us.length s = false := by rw [plsN_playsL]; exact c1n
          repeat' (first | refine WP_region ?_ | refine wl_nil ?_ | refine then_normal ?_ | refine inB_normal ?_ | refine WP_skip ?_ | refine WP_condF rfl ?_ | (refine g_guard ?_; refine st_off rfl ?_) | (refine g_move ?_; refine st_move rfl ?_) | (refine g_assign ?_; refine st_assign rfl ?_) | (refine g_pick ?_; refine st_pickF rfl rfl ?_) | (refine g_b_add ?_; (refine st_val rfl (r_addN rfl rfl ?_ ?_) ?_; (first | omega | (simp <;> omega)); (first | omega | (simp <;> omega)))) | (refine g_callV ?_; (refine st_callV rfl (r_call4 rfl rfl rfl rfl rfl) (lacks_is (hr.mono S.below) (hr2.mono S.below) (S.rdRow (D := fInt .i64) (i := 0) rfl) hl hu (by simp [playsL]) (playsL_ok hl) rfl hs2 c1') ?_; intro w hb; replace S := S.grow hb; clear hb)))
          refine nextI.mk ⟨_, ?_, s + 1, b, ⟨rfl, rfl, rfl, rfl, trivial⟩, S.keep [false], by omega, by omega, by omega, rfl, hB.skip c1n⟩
          omega
      · have e : s = 2 ^ us.length := by rw [hM]; omega
        have hb60 : b < 2 ^ 60 := Nat.lt_of_lt_of_le hbM h60
        rw [e] at hB
        have hfin := hB.fin
        have hres : lackI l us = (if b = 0 then ([], false) else (iz (elems us.length b), true)) := by
          unfold lackI; rw [if_pos ⟨hl, hu⟩, hfin]
          by_cases h : b = 0
          · rw [if_pos h, if_pos h]; rfl
          · rw [if_neg h, if_neg h]; rfl
        repeat' (first | refine WP_seq ?_ | refine WP_region ?_ | refine wl_nil ?_ | refine then_normal ?_ | refine then_exit ?_ | refine inB_here ?_ | refine WP_exit ?_ | refine WP_block ?_ | (refine g_move ?_; refine st_move rfl ?_) | (refine g_assign ?_; refine st_assign rfl ?_) | (refine g_b_lss ?_; refine st_val rfl (r_lss rfl rfl) ?_) | (refine g_b_shl ?_; (refine st_val rfl (r_shl rfl rfl ?_) ?_; (first | omega | (simp <;> omega)))) | (refine g_c_len ?_; refine st_val rfl (r_lenSlice rfl) ?_) | (refine WP_cond rfl (fun h => ?_) (fun h => ?_) <;> (fail_if_success (have hh : true = true := h)) <;> (fail_if_success (have hh : false = false := h)) <;> (try simp only [decide_eq_true_eq, decide_eq_false_iff_not, Bool.not_eq_true', Bool.not_eq_false', Int.not_lt, Int.not_le] at h) <;> (try (exfalso; omega))))
        refine WP_loop (fun k σ w1 => ∃ (i : Int) (vo : Value), Has σ [(1, .slice A2 us.length cu), (6, .int .i64 b), (8, vo), (9, .int .i64 i)] ∧ St w0 w1 [rowOb (fInt .i64) 3 vo (iz ((List.range i.toNat).filter (bit b)))] ∧ 0 ≤ i ∧ i ≤ us.length ∧ k = us.length - i.toNat) us.length ⟨0, _, ⟨rfl, rfl, rfl, rfl, trivial⟩, S.nilRow (fInt .i64) 3, by omega, by omega, by omega⟩ ?_
        clear S
        rintro k σ w1 ⟨i, vo, hsl, S, hi0, hi1, rfl⟩
        refine WP_has hsl ?_
        by_cases hi : i < us.length
        · have hes := elemsTo_succ b i.toNat
          rw [show i.toNat + 1 = (i + 1).toNat by omega] at hes
          have hlen : ((List.range i.toNat).filter (bit b)).length ≤ i.toNat := Nat.le_trans (List.length_filter_le _ _) (by simp)
          cases hbt : bit b i.toNat
          · rw [hbt, if_neg (by decide)] at hes
            repeat' (first | refine WP_seq ?_ | refine WP_region ?_ | refine wl_nil ?_ | refine then_normal ?_ | refine inB_normal ?_ | refine WP_skip ?_ | refine WP_block ?_ | refine WP_condF rfl ?_ | (refine g_move ?_; refine st_move rfl ?_) | (refine g_assign ?_; refine st_assign rfl ?_) | (refine g_b_add ?_; (refine st_val rfl (r_addN rfl rfl ?_ ?_) ?_; (first | omega | (simp <;> omega)); (first | omega | (simp <;> omega)))) | (refine g_b_lss ?_; refine st_val rfl (r_lss rfl rfl) ?_) | (refine g_c_len ?_; refine st_val rfl (r_lenSlice rfl) ?_) | (refine g_callV ?_; (refine st_callV rfl (r_call2 rfl rfl rfl) (bit_is rfl hb60 (Int.toNat_of_nonneg hi0).symm (by omega) hbt) ?_; intro w hb; replace S := S.grow hb; clear hb)) | (refine WP_cond rfl (fun h => ?_) (fun h => ?_) <;> (fail_if_success (have hh : true = true := h)) <;> (fail_if_success (have hh : false = false := h)) <;> (try simp only [decide_eq_true_eq, decide_eq_false_iff_not, Bool.not_eq_true', Bool.not_eq_false', Int.not_lt, Int.not_le] at h) <;> (try (exfalso; omega))))
            refine nextI.mk ⟨_, ?_, i + 1, vo, ⟨rfl, rfl, rfl, rfl, trivial⟩, by rw [hes]; exact S, by omega, by omega, rfl⟩
            omega
          · rw [hbt, if_pos rfl] at hes
            repeat' (first | refine WP_seq ?_ | refine WP_region ?_ | refine wl_nil ?_ | refine then_normal ?_ | refine WP_skip ?_ | refine WP_block ?_ | refine WP_condT rfl ?_ | (refine g_move ?_; refine st_move rfl ?_) | (refine g_b_lss ?_; refine st_val rfl (r_lss rfl rfl) ?_) | (refine g_c_len ?_; refine st_val rfl (r_lenSlice rfl) ?_) | (refine g_callV ?_; (refine st_callV rfl (r_call2 rfl rfl rfl) (bit_is rfl hb60 (Int.toNat_of_nonneg hi0).symm (by omega) hbt) ?_; intro w hb; replace S := S.grow hb; clear hb)) | (refine WP_cond rfl (fun h => ?_) (fun h => ?_) <;> (fail_if_success (have hh : true = true := h)) <;> (fail_if_success (have hh : false = false := h)) <;> (try simp only [decide_eq_true_eq, decide_eq_false_iff_not, Bool.not_eq_true', Bool.not_eq_false', Int.not_lt, Int.not_le] at h) <;> (try (exfalso; omega))))
            refine st_valE rfl (r_litF (D := fInt .i64) [i] (Value.int .i64) S rfl rfl (fun _ => rfl) rfl (by decide) (by decide)) ?_
            rintro _ w ⟨bl, rfl, -, -, S'⟩; replace S := S'; clear S'
            refine st_valE rfl (r_appendRd (D := fInt .i64) (i := 0) S rfl (S.rdRow (D := fInt .i64) (i := 1) rfl) rfl rfl rfl (by decide) oneI (by simp; omega) (by simp; omega)) ?_
            rintro va' w ⟨-, S'⟩; replace S := S'; clear S'
            repeat' (first | refine WP_region ?_ | refine wl_nil ?_ | refine then_normal ?_ | refine inB_normal ?_ | (refine g_move ?_; refine st_move rfl ?_) | (refine g_assign ?_; refine st_assign rfl ?_) | (refine g_b_add ?_; (refine st_val rfl (r_addN rfl rfl ?_ ?_) ?_; (first | omega | (simp <;> omega)); (first | omega | (simp <;> omega)))))
            have e5 : iz ((List.range i.toNat).filter (bit b)) ++ [i] = iz ((List.range (i + 1).toNat).filter (bit b)) := by
              rw [hes]; have := iz_app ((List.range i.toNat).filter (bit b)) i.toNat; rw [Int.toNat_of_nonneg hi0] at this; exact this
            have S2 : St w0 _ [rowOb (fInt .i64) 3 va' (iz ((List.range i.toNat).filter (bit b)) ++ [i])] := S.keep [true, false]
            rw [e5] at S2
            refine nextI.mk ⟨_, ?_, i + 1, va', ⟨rfl, rfl, rfl, rfl, trivial⟩, S2, by omega, by omega, rfl⟩
            omega
        · have e2 : i.toNat = us.length := by omega
          rw [e2] at S
          have hrow : NewRow (fInt .i64) 3 w0 w1 vo (iz (elems us.length b)) := S.row (i := 0) rfl
          by_cases hb0 : b = 0
          · have ez : elems us.length b = [] := by
              subst hb0
              unfold elems; rw [List.filter_eq_nil_iff]; intro k hk; unfold bit; simp
            rw [ez] at hrow
            rw [if_pos hb0] at hres
            rw [hres]
            repeat' (first | refine WP_seq ?_ | refine WP_region ?_ | refine wl_nil ?_ | refine then_normal ?_ | refine then_exit ?_ | refine inB_here ?_ | refine WP_ret ?_ | refine WP_exit ?_ | (refine g_move ?_; refine st_move rfl ?_) | (refine g_assign ?_; refine st_assign rfl ?_) | (refine g_b_lss ?_; refine st_val rfl (r_lss rfl rfl) ?_) | (refine g_b_gtr ?_; refine st_val rfl (r_gtr rfl rfl) ?_) | (refine g_c_len ?_; refine st_val rfl (r_lenSlice rfl) ?_) | (refine WP_cond rfl (fun h => ?_) (fun h => ?_) <;> (fail_if_success (have hh : true = true := h)) <;> (fail_if_success (have hh : false = false := h)) <;> (try simp only [decide_eq_true_eq, decide_eq_false_iff_not, Bool.not_eq_true', Bool.not_eq_false', Int.not_lt, Int.not_le] at h) <;> (try (exfalso; omega))))
            refine end2 (v := vo) (v2 := .bool (decide ((0 : Int) < (b : Int)))) rfl rfl rfl ⟨_, rfl, S.below, vo, ?_, hrow⟩
            rw [decide_eq_false (by omega)]
          · rw [if_neg hb0] at hres
            rw [hres]
            repeat' (first | refine WP_seq ?_ | refine WP_region ?_ | refine wl_nil ?_ | refine then_normal ?_ | refine then_exit ?_ | refine inB_here ?_ | refine WP_ret ?_ | refine WP_exit ?_ | (refine g_move ?_; refine st_move rfl ?_) | (refine g_assign ?_; refine st_assign rfl ?_) | (refine g_b_lss ?_; refine st_val rfl (r_lss rfl rfl) ?_) | (refine g_b_gtr ?_; refine st_val rfl (r_gtr rfl rfl) ?_) | (refine g_c_len ?_; refine st_val rfl (r_lenSlice rfl) ?_) | (refine WP_cond rfl (fun h => ?_) (fun h => ?_) <;> (fail_if_success (have hh : true = true := h)) <;> (fail_if_success (have hh : false = false := h)) <;> (try simp only [decide_eq_true_eq, decide_eq_false_iff_not, Bool.not_eq_true', Bool.not_eq_false', Int.not_lt, Int.not_le] at h) <;> (try (exfalso; omega))))
            refine end2 (v := vo) (v2 := .bool (decide ((0 : Int) < (b : Int)))) rfl rfl rfl ⟨_, rfl, S.below, vo, ?_, hrow⟩
            rw [decide_eq_true (by omega)]
    · have hasn : lackI l us = ([], false) := if_neg (fun h => hu h.2)
      rw [hasn]
      repeat' (first | refine WP_seq ?_ | refine WP_region ?_ | refine wl_nil ?_ | refine then_normal ?_ | refine then_ret ?_ | refine WP_ret ?_ | refine WP_condT rfl ?_ | (refine g_move ?_; refine st_move rfl ?_) | (refine g_assign ?_; refine st_assign rfl ?_) | (refine g_pick ?_; refine st_pickF rfl rfl ?_) | (refine g_un ?_; refine st_val rfl (r_not rfl) ?_) | (refine g_callV ?_; first | (refine st_callV rfl (r_call1 rfl rfl) (validR_is (hr.mono S.below) hl2 hl) ?_; intro w hb; replace S := S.grow hb; clear hb) | (refine st_callV rfl (r_call1 rfl rfl) (validUsesR_is (hr2.mono S.below) hu2 (Bool.eq_false_iff.2 hu)) ?_; intro w hb; replace S := S.grow hb; clear hb)))
      exact end2 (v := .slice none 0 0) (v2 := .bool false) rfl rfl rfl ⟨_, rfl, S.below, _, rfl, NewRow.nil _ _ _ _⟩
  · have hasn : lackI l us = ([], false) := if_neg (fun h => hl h.1)
    rw [hasn]
    repeat' (first | refine WP_seq ?_ | refine WP_region ?_ | refine wl_nil ?_ | refine then_normal ?_ | refine then_ret ?_ | refine WP_ret ?_ | refine WP_condT rfl ?_ | (refine g_guard ?_; refine st_off rfl ?_) | (refine g_move ?_; refine st_move rfl ?_) | (refine g_assign ?_; refine st_assign rfl ?_) | (refine g_pick ?_; refine st_pickT rfl rfl ?_) | (refine g_un ?_; refine st_val rfl (r_not rfl) ?_) | (refine g_callV ?_; (refine st_callV rfl (r_call1 rfl rfl) (validR_is (hr.mono S.below) hl2 (Bool.eq_false_iff.2 hl)) ?_; intro w hb; replace S := S.grow hb; clear hb)))
    exact end2 (v := .slice none 0 0) (v2 := .bool false) rfl rfl rfl ⟨_, rfl, S.below, _, rfl, NewRow.nil _ _ _ _⟩
end Go.Proofs.Ytfdjnadopniaeaa
