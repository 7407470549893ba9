import Derived.Test.YtfdjnadopniaeaaB
namespace Go.Proofs.Ytfdjnadopniaeaa
open Go Go.Gx Go.RowKit
set_option linter.unusedVariables false
set_option linter.unusedSimpArgs false

def bitI (n : Int) (k : Nat) : Bool := decide (n / 2 ^ k % 2 = 1)
theorem bit_spec {n k : Int} {w : World} (hn : 0 ≤ n) (hn1 : n ≤ 9223372036854775807) (hk : 0 ≤ k) (hk1 : k ≤ 63) : CallsV Try.prog 50 #[.int .i64 n, .int .i64 k] w (.bool (bitI n k.toNat)) := by
  have S := St.start w
  have e : n.fdiv (2 ^ (min k.toNat IntKind.i64.bits)) = n / 2 ^ k.toNat := by
    rw [show min k.toNat IntKind.i64.bits = k.toNat from Nat.min_eq_left (by show k.toNat ≤ 64; omega)]
    exact Int.fdiv_eq_ediv_of_nonneg _ (Int.pow_nonneg (by decide))
  have hq : 0 ≤ n.fdiv (2 ^ (min k.toNat IntKind.i64.bits)) := by rw [e]; exact Int.ediv_nonneg hn (Int.pow_nonneg (by decide))
  refine CallsV.mk ?_
  refine calls_enter Try.func50 rfl (by intro _ h; first | exact nomatch h.1 | (obtain ⟨_, h, _⟩ := h; exact nomatch h)) Try.ntmps50 rfl ?_
  repeat' (first | refine WP_seq ?_ | refine WP_region ?_ | refine wl_nil ?_ | refine then_normal ?_ | refine WP_ret ?_ | (refine g_move ?_; refine st_move rfl ?_) | (refine g_assign ?_; refine st_assign rfl ?_) | (refine g_b_rem ?_; (refine st_val rfl (r_remN rfl rfl ?_ ?_) ?_; (first | omega | (simp <;> omega)); (first | omega | (simp <;> omega)))) | (refine g_b_eql ?_; refine st_val rfl (r_eql rfl rfl) ?_) | (refine g_b_shr ?_; (refine st_val rfl (r_shr rfl rfl ?_) ?_; (first | omega | (simp <;> omega)))))
  all_goals (refine end1 rfl rfl ⟨rb ?_, S.below⟩; unfold bitI; rw [e])
def actsI (a b : Int) : Bool := (List.range 5).all fun k => !bitI a k || bitI b k
def permG (g : GGrant) (u : GUse) : Bool := decide (g.Item = u.Item) && actsI u.Acts g.Acts && bitI g.Regions u.Region.toNat && decide (g.Window.From ≤ u.At) && decide (u.At < g.Window.To)
theorem andNot_fin : ∀ a b : Fin 32, decide (bitsOp .andNot .i64 (a.val : Int) (b.val : Int) = 0) = actsI (a.val : Int) (b.val : Int) := by decide +kernel
theorem andNot_is {a b : Int} (ha : 0 ≤ a) (ha1 : a ≤ 31) (hb : 0 ≤ b) (hb1 : b ≤ 31) : decide (bitsOp .andNot .i64 a b = 0) = actsI a b := by
  have := andNot_fin ⟨a.toNat, by omega⟩ ⟨b.toNat, by omega⟩
  simpa only [Int.toNat_of_nonneg ha, Int.toNat_of_nonneg hb] using this
theorem reg_fin : ∀ (a : Fin 256) (b : Fin 8), decide (bitsOp .and .i64 ((a.val : Int).fdiv (2 ^ (min ((b.val : Int)).toNat IntKind.i64.bits))) 1 = 1) = bitI (a.val : Int) ((b.val : Int)).toNat := by decide +kernel
theorem reg_is {a b : Int} (ha : 0 ≤ a) (ha1 : a ≤ 255) (hb : 0 ≤ b) (hb1 : b ≤ 7) : decide (bitsOp .and .i64 (a.fdiv (2 ^ (min b.toNat IntKind.i64.bits))) 1 = 1) = bitI a b.toNat := by
  have := reg_fin ⟨a.toNat, by omega⟩ ⟨b.toNat, by omega⟩
  simpa only [Int.toNat_of_nonneg ha, Int.toNat_of_nonneg hb] using this
theorem permits_spec {g : GGrant} {u : GUse} {w : World} (hg : okG g = true) (hu : okU u = true) : CallsV Try.prog 40 #[.agg g.enc.toArray, .agg u.enc.toArray] w (.bool (permG g u)) := by
  have S := St.start w
  simp only [okG, okU, decide_eq_true_eq] at hg hu
  have h1 := andNot_is (a := u.Acts) (b := g.Acts) (by omega) (by omega) (by omega) (by omega)
  have h2 := reg_is (a := g.Regions) (b := u.Region) (by omega) (by omega) (by omega) (by omega)
  refine CallsV.mk ?_
  refine calls_enter Try.func40 rfl (by intro _ h; first | exact nomatch h.1 | (obtain ⟨_, h, _⟩ := h; exact nomatch h)) Try.ntmps40 rfl ?_
  repeat' (first | refine WP_seq ?_ | refine WP_region ?_ | refine wl_nil ?_ | refine then_normal ?_ | refine WP_ret ?_ | (refine g_guard ?_; refine st_off rfl ?_) | (refine g_move ?_; refine st_move rfl ?_) | (refine g_assign ?_; refine st_assign rfl ?_) | (refine g_pick ?_; first | refine st_pickT rfl rfl ?_ | refine st_pickF rfl rfl ?_) | (refine g_b_eql ?_; refine st_val rfl (r_eql rfl rfl) ?_) | (refine g_b_lss ?_; refine st_val rfl (r_lss rfl rfl) ?_) | (refine g_b_leq ?_; refine st_val rfl (r_leq rfl rfl) ?_) | (refine g_b_and ?_; refine st_val rfl (r_and rfl rfl) ?_) | (refine g_b_andNot ?_; refine st_val rfl (r_andNot rfl rfl) ?_) | (refine g_b_shr ?_; (refine st_val rfl (r_shr rfl rfl ?_) ?_; (first | omega | (simp <;> omega)))) | (refine g_fieldAddr ?_; refine st_val rfl (r_fieldAddrL rfl) ?_) | (refine g_load ?_; first | refine st_val rfl (r_loadVar (i := 0) S rfl rfl rfl) ?_ | refine st_val rfl (r_loadVar (i := 1) S rfl rfl rfl) ?_) | (refine g_box ?_; refine st_valE rfl (r_box S rfl) ?_; rintro _ w ⟨b, rfl, -, S'⟩; replace S := S'; clear S') | (refine wl_split rfl rfl (fun h => ?_) (fun h => ?_) <;> (fail_if_success (have hh : true = true := h)) <;> (fail_if_success (have hh : false = false := h)) <;> (try simp only [decide_eq_true_eq, decide_eq_false_iff_not, Bool.not_eq_true', Bool.not_eq_false', Int.not_lt, Int.not_le] at h) <;> (try (exfalso; omega))))
  all_goals (refine end1 rfl rfl ⟨rb ?_, S.below⟩; unfold permG; rw [← h1, ← h2]; simp_all <;> omega)
theorem permitted_spec {g : GGrant} {u : GUse} {w0 : World} (hg : okG g = true) (hu : okU u = true) : CallsV Try.prog 43 #[.agg g.enc.toArray, .agg u.enc.toArray] w0 (.bool (permG g u)) := by
  have S := St.start w0
  simp only [okG, okU, decide_eq_true_eq] at hg hu
  refine CallsV.mk ?_
  refine calls_enter Try.func43 rfl (by intro _ h; first | exact nomatch h.1 | (obtain ⟨_, h, _⟩ := h; exact nomatch h)) Try.ntmps43 rfl ?_
  repeat' (first | refine WP_seq ?_ | refine WP_region ?_ | refine wl_nil ?_ | refine then_normal ?_ | refine WP_block ?_ | (refine g_assign ?_; refine st_assign rfl ?_) | (refine g_box ?_; refine st_valE rfl (r_box S rfl) ?_; rintro _ w ⟨b, rfl, -, S'⟩; replace S := S'; clear S'))
  rename_i b1
  have hS : St w0 w [.var b1 52 g.enc, .var b 46 u.enc] := S
  clear S
  refine WP_loop (fun k σ w1 => ∃ i : Int, Has σ [(2, .pointer (some ⟨b1, 0, none⟩)), (3, .pointer (some ⟨b, 0, none⟩)), (5, .int .i64 i)] ∧ St w0 w1 [.var b1 52 g.enc, .var b 46 u.enc] ∧ 0 ≤ i ∧ i ≤ 5 ∧ (∀ j : Nat, (j : Int) < i → (!bitI u.Acts j || bitI g.Acts j) = true) ∧ k = 5 - i.toNat) 5 ⟨0, ⟨rfl, rfl, rfl, trivial⟩, hS, by omega, by omega, fun j a => by omega, by omega⟩ ?_
  clear hS
  rintro k σ w1 ⟨i, hs', S, hi0, hi1, hall, rfl⟩
  refine WP_has hs' ?_
  by_cases hi : i < 5
  · repeat' (first | refine WP_seq ?_ | refine WP_region ?_ | refine wl_nil ?_ | refine then_normal ?_ | refine inB_normal ?_ | refine then_ret ?_ | refine inB_ret ?_ | refine WP_ret ?_ | refine WP_skip ?_ | refine WP_block ?_ | refine WP_condF rfl ?_ | (refine g_guard ?_; refine st_off rfl ?_) | (refine g_move ?_; refine st_move rfl ?_) | (refine g_assign ?_; refine st_assign rfl ?_) | (refine g_pick ?_; first | refine st_pickT rfl rfl ?_ | refine st_pickF rfl rfl ?_) | (refine g_b_add ?_; (refine st_val rfl (r_addN rfl rfl ?_ ?_) ?_; (first | omega | (simp <;> omega)); (first | omega | (simp <;> omega)))) | (refine g_b_lss ?_; refine st_val rfl (r_lss rfl rfl) ?_) | (refine g_un ?_; refine st_val rfl (r_not rfl) ?_) | (refine g_fieldAddr ?_; refine st_val rfl (r_fieldAddrL rfl) ?_) | (refine g_load ?_; first | refine st_val rfl (r_loadVar (i := 0) S rfl rfl rfl) ?_ | refine st_val rfl (r_loadVar (i := 1) S rfl rfl rfl) ?_) | (refine g_callV ?_; (refine st_callV rfl (r_call2 rfl rfl rfl) (bit_spec (by omega) (by omega) (by omega) (by omega)) ?_; intro w hb; replace S := S.grow hb; clear hb)) | (refine wl_split rfl rfl (fun h => ?_) (fun h => ?_) <;> (fail_if_success (have hh : true = true := h)) <;> (fail_if_success (have hh : false = false := h)) <;> (try simp only [decide_eq_true_eq, decide_eq_false_iff_not, Bool.not_eq_true', Bool.not_eq_false', Int.not_lt, Int.not_le] at h) <;> (try (exfalso; omega))) | (refine WP_cond rfl (fun h => ?_) (fun h => ?_) <;> (fail_if_success (have hh : true = true := h)) <;> (fail_if_success (have hh : false = false := h)) <;> (try simp only [decide_eq_true_eq, decide_eq_false_iff_not, Bool.not_eq_true', Bool.not_eq_false', Int.not_lt, Int.not_le] at h) <;> (try (exfalso; omega))))
    all_goals first
      | (refine ⟨⟨_, ?_, i + 1, ⟨rfl, rfl, rfl, trivial⟩, S, by omega, by omega, fun j a => ?_, rfl⟩⟩
         · omega
         · by_cases e : (j : Int) = i
           · have e' : j = i.toNat := by omega
             subst e'; simp_all
           · exact hall j (by omega))
      | (refine end1 rfl rfl ⟨rb ?_, S.below⟩
         symm; unfold permG
         have : actsI u.Acts g.Acts = false := by
           unfold actsI; rw [List.all_eq_false]
           exact ⟨i.toNat, List.mem_range.2 (by omega), by simp_all⟩
         rw [this, Bool.and_false, Bool.false_and, Bool.false_and, Bool.false_and])
  · have ha : actsI u.Acts g.Acts = true := by
      unfold actsI; rw [List.all_eq_true]
      intro k hk; have := List.mem_range.1 hk; exact hall k (by omega)
    repeat' (first | refine WP_seq ?_ | refine WP_region ?_ | refine wl_nil ?_ | refine then_normal ?_ | refine then_exit ?_ | refine inB_here ?_ | refine WP_ret ?_ | refine WP_exit ?_ | (refine g_guard ?_; refine st_off rfl ?_) | (refine g_move ?_; refine st_move rfl ?_) | (refine g_assign ?_; refine st_assign rfl ?_) | (refine g_pick ?_; first | refine st_pickT rfl rfl ?_ | refine st_pickF rfl rfl ?_) | (refine g_b_eql ?_; refine st_val rfl (r_eql rfl rfl) ?_) | (refine g_b_lss ?_; refine st_val rfl (r_lss rfl rfl) ?_) | (refine g_b_geq ?_; refine st_val rfl (r_geq rfl rfl) ?_) | (refine g_fieldAddr ?_; refine st_val rfl (r_fieldAddrL rfl) ?_) | (refine g_load ?_; first | refine st_val rfl (r_loadVar (i := 0) S rfl rfl rfl) ?_ | refine st_val rfl (r_loadVar (i := 1) S rfl rfl rfl) ?_) | (refine g_callV ?_; (refine st_callV rfl (r_call2 rfl rfl rfl) (bit_spec (by omega) (by omega) (by omega) (by omega)) ?_; intro w hb; replace S := S.grow hb; clear hb)) | (refine wl_split rfl rfl (fun h => ?_) (fun h => ?_) <;> (fail_if_success (have hh : true = true := h)) <;> (fail_if_success (have hh : false = false := h)) <;> (try simp only [decide_eq_true_eq, decide_eq_false_iff_not, Bool.not_eq_true', Bool.not_eq_false', Int.not_lt, Int.not_le] at h) <;> (try (exfalso; omega))) | (refine WP_cond rfl (fun h => ?_) (fun h => ?_) <;> (fail_if_success (have hh : true = true := h)) <;> (fail_if_success (have hh : false = false := h)) <;> (try simp only [decide_eq_true_eq, decide_eq_false_iff_not, Bool.not_eq_true', Bool.not_eq_false', Int.not_lt, Int.not_le] at h) <;> (try (exfalso; omega))))
    all_goals (refine end1 rfl rfl ⟨rb ?_, S.below⟩; unfold permG; rw [ha]; simp_all <;> omega)
end Go.Proofs.Ytfdjnadopniaeaa
