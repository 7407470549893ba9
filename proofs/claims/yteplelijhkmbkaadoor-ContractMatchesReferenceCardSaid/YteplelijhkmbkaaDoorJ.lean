import Derived.Test.YteplelijhkmbkaaDoorA
namespace Go.Proofs.YteplelijhkmbkaaDoor
open Go Go.Gx Go.RowKit
set_option linter.unusedVariables false
set_option linter.unusedSimpArgs false

def inR (n lo hi : Int) : Bool := decide (lo ≤ n ∧ n ≤ hi)
theorem btw_spec {n lo hi : Int} {w : World} : CallsV Tryd.prog 43 #[.int .i64 n, .int .i64 lo, .int .i64 hi] w (.bool (inR n lo hi)) := by
  have S := St.start w
  refine CallsV.mk ?_
  refine calls_enter Tryd.func43 rfl (by intro _ h; first | exact nomatch h.1 | (obtain ⟨_, h, _⟩ := h; exact nomatch h)) Tryd.ntmps43 rfl ?_
  repeat' (first | refine WP_seq ?_ | refine WP_region ?_ | refine wl_nil ?_ | refine then_normal ?_ | refine WP_ret ?_ | (refine g_guard ?_; refine st_off rfl ?_) | (refine g_move ?_; refine st_move rfl ?_) | (refine g_assign ?_; refine st_assign rfl ?_) | (refine g_pick ?_; first | refine st_pickT rfl rfl ?_ | refine st_pickF rfl rfl ?_) | (refine g_b_leq ?_; refine st_val rfl (r_leq rfl rfl) ?_) | (refine g_b_geq ?_; refine st_val rfl (r_geq rfl rfl) ?_) | (refine wl_split rfl rfl (fun h => ?_) (fun h => ?_) <;> (fail_if_success (have hh : true = true := h)) <;> (fail_if_success (have hh : false = false := h)) <;> (try simp only [decide_eq_true_eq, decide_eq_false_iff_not, Bool.not_eq_true', Bool.not_eq_false', Int.not_lt, Int.not_le] at h) <;> (try (exfalso; omega))))
  all_goals (refine end1 rfl rfl ⟨rb ?_, S.below⟩; simp [inR]; try omega)
theorem in_spec {n lo hi : Int} {w : World} : CallsV Tryd.prog 45 #[.int .i64 n, .int .i64 lo, .int .i64 hi] w (.bool (inR n lo hi)) := by
  have S := St.start w
  refine CallsV.mk ?_
  refine calls_enter Tryd.func45 rfl (by intro _ h; first | exact nomatch h.1 | (obtain ⟨_, h, _⟩ := h; exact nomatch h)) Tryd.ntmps45 rfl ?_
  repeat' (first | refine WP_seq ?_ | refine WP_region ?_ | refine wl_nil ?_ | refine then_normal ?_ | refine WP_ret ?_ | (refine g_guard ?_; refine st_off rfl ?_) | (refine g_move ?_; refine st_move rfl ?_) | (refine g_assign ?_; refine st_assign rfl ?_) | (refine g_pick ?_; first | refine st_pickT rfl rfl ?_ | refine st_pickF rfl rfl ?_) | (refine g_b_leq ?_; refine st_val rfl (r_leq rfl rfl) ?_) | (refine g_b_geq ?_; refine st_val rfl (r_geq rfl rfl) ?_) | (refine wl_split rfl rfl (fun h => ?_) (fun h => ?_) <;> (fail_if_success (have hh : true = true := h)) <;> (fail_if_success (have hh : false = false := h)) <;> (try simp only [decide_eq_true_eq, decide_eq_false_iff_not, Bool.not_eq_true', Bool.not_eq_false', Int.not_lt, Int.not_le] at h) <;> (try (exfalso; omega))))
  all_goals (refine end1 rfl rfl ⟨rb ?_, S.below⟩; simp [inR]; try omega)
/-- The days of a week. -/
abbrev wkL (k : GWeek) : List Int := [k.a0, k.a1, k.a2, k.a3, k.a4, k.a5, k.a6]
def okH (x : Int) : Bool := decide (0 ≤ x ∧ x ≤ 16777215)
def okW (k : GWeek) : Bool := (wkL k).all okH
theorem wk_get {k : GWeek} {i : Nat} (h : i < 7) : (k.enc.toArray)[i]? = some (.int .i64 (nth (wkL k) (i : Int))) := by
  match i, h with
  | 0, _ => rfl
  | 1, _ => rfl
  | 2, _ => rfl
  | 3, _ => rfl
  | 4, _ => rfl
  | 5, _ => rfl
  | 6, _ => rfl
theorem wk_get' {k : GWeek} {i : Int} (h0 : 0 ≤ i) (h : i < 7) : (k.enc.toArray)[i.toNat]? = some (.int .i64 (nth (wkL k) i)) := by
  have := wk_get (k := k) (i := i.toNat) (by omega)
  rwa [Int.toNat_of_nonneg h0] at this
theorem nth_mem {α : Type} [Inhabited α] {l : List α} {i : Int} (h0 : 0 ≤ i) (h : i < l.length) : nth l i ∈ l := List.mem_of_getElem? (nth_get h0 h)
theorem okW_of {k : GWeek} (h : ∀ j : Int, 0 ≤ j → j < 7 → okH (nth (wkL k) j) = true) : okW k = true := by
  unfold okW
  rw [List.all_eq_true]
  intro x hx
  obtain ⟨j, hj⟩ := List.getElem?_of_mem hx
  have hlt : j < 7 := by have := (List.getElem?_eq_some_iff.1 hj).1; simpa using this
  have h1 := nth_get (l := wkL k) (i := (j : Int)) (by omega) (by show (j : Int) < 7; omega)
  rw [Int.toNat_natCast, hj] at h1
  cases h1; exact h j (by omega) (by omega)
theorem okW_no {k : GWeek} {j : Int} (h0 : 0 ≤ j) (h1 : j < 7) (h : okH (nth (wkL k) j) = false) : okW k = false := by
  unfold okW
  rw [List.all_eq_false]
  exact ⟨_, nth_mem h0 (by show j < 7; exact h1), by rw [h]; decide⟩
theorem okW_at {k : GWeek} (h : okW k = true) {j : Int} (h0 : 0 ≤ j) (h1 : j < 7) : 0 ≤ nth (wkL k) j ∧ nth (wkL k) j ≤ 16777215 := by
  have := List.all_eq_true.1 h _ (nth_mem (l := wkL k) h0 (by show j < 7; exact h1))
  exact of_decide_eq_true this
theorem r_loadWk {P : Program} {ρ : Operand → Value} {w0 w : World} {d : Option Tmp} {ty : TypeId} {pos : String} {af : Array Edge} {g : Option (Nat × Bool)} {T : TypeId} {s : Operand} {os : List Ob} {i b : Nat} {T' : TypeId} {k : GWeek} {j : Int} [TF P T false 1] (S : St w0 w os) (hi : os[i]? = some (.var b T' k.enc)) (h1 : ρ s = .pointer (some ⟨b, 0 + j.toNat * 1, none⟩)) (h0 : 0 ≤ j) (h : j < 7) :
    Runs P ρ ⟨d, .load T s, ty, pos, af, g⟩ w (.ok (.value (.int .i64 (nth (wkL k) j))) w) :=
  r_loadVar (o := 0 + j.toNat * 1) S hi h1 (by have := wk_get' (k := k) h0 h; rw [show 0 + j.toNat * 1 = j.toNat by omega]; simpa using this)
theorem validW_spec {k : GWeek} {w0 : World} : CallsV Tryd.prog 46 #[.agg k.enc.toArray] w0 (.bool (okW k)) := by
  have S := St.start w0
  refine CallsV.mk ?_
  refine calls_enter Tryd.func46 rfl (by intro _ h; first | exact nomatch h.1 | (obtain ⟨_, h, _⟩ := h; exact nomatch h)) Tryd.ntmps46 rfl ?_
  repeat' (first | refine WP_seq ?_ | refine WP_region ?_ | refine wl_nil ?_ | refine then_normal ?_ | refine WP_block ?_ | (refine g_move ?_; refine st_move rfl ?_) | (refine g_assign ?_; refine st_assign rfl ?_) | (refine g_load ?_; refine st_val rfl (r_loadVarA (i := 0) S rfl rfl rfl rfl) ?_) | (refine g_box ?_; refine st_valE rfl (r_box S rfl) ?_; rintro _ w ⟨b, rfl, -, S'⟩; replace S := S'; clear S'))
  refine WP_loop (fun m σ w1 => ∃ i : Int, Has σ [(5, .agg k.enc.toArray), (6, .int .i64 i)] ∧ St w0 w1 [] ∧ 0 ≤ i ∧ i ≤ 7 ∧ (∀ j : Int, 0 ≤ j → j < i → okH (nth (wkL k) j) = true) ∧ m = 7 - i.toNat) 7 ⟨0, ⟨rfl, rfl, trivial⟩, S.keep [false], by omega, by omega, fun j a b => by omega, by omega⟩ ?_
  clear S
  rintro m σ w1 ⟨i, hs, S, hi0, hi1, hok, hm⟩
  refine WP_has hs ?_
  by_cases hi : i < 7
  · repeat' (first | refine WP_seq ?_ | refine WP_region ?_ | refine wl_nil ?_ | refine then_normal ?_ | refine inB_normal ?_ | refine then_ret ?_ | refine inB_ret ?_ | refine WP_ret ?_ | refine WP_skip ?_ | refine WP_block ?_ | refine WP_condT rfl ?_ | (refine g_guard ?_; refine st_off rfl ?_) | (refine g_move ?_; refine st_move rfl ?_) | (refine g_assign ?_; refine st_assign rfl ?_) | (refine g_pick ?_; first | refine st_pickT rfl rfl ?_ | refine st_pickF rfl rfl ?_) | (refine g_b_add ?_; (refine st_val rfl (r_addN rfl rfl ?_ ?_) ?_; (first | omega | (simp <;> omega)); (first | omega | (simp <;> omega)))) | (refine g_b_lss ?_; refine st_val rfl (r_lss rfl rfl) ?_) | (refine g_b_gtr ?_; refine st_val rfl (r_gtr rfl rfl) ?_) | (refine st_val rfl (r_indexArr rfl rfl hi0 (by omega) (wk_get' hi0 hi)) ?_) | (refine wl_split rfl rfl (fun h => ?_) (fun h => ?_) <;> (fail_if_success (have hh : true = true := h)) <;> (fail_if_success (have hh : false = false := h)) <;> (try simp only [decide_eq_true_eq, decide_eq_false_iff_not, Bool.not_eq_true', Bool.not_eq_false', Int.not_lt, Int.not_le] at h) <;> (try (exfalso; omega))) | (refine WP_cond rfl (fun h => ?_) (fun h => ?_) <;> (fail_if_success (have hh : true = true := h)) <;> (fail_if_success (have hh : false = false := h)) <;> (try simp only [decide_eq_true_eq, decide_eq_false_iff_not, Bool.not_eq_true', Bool.not_eq_false', Int.not_lt, Int.not_le] at h) <;> (try (exfalso; omega))))
    all_goals first
      | (refine ⟨⟨_, ?_, i + 1, ⟨rfl, rfl, trivial⟩, S, by omega, by omega, fun j a b => ?_, rfl⟩⟩
         · omega
         · by_cases e : j = i
           · subst e; unfold okH; rw [decide_eq_true_eq]; omega
           · exact hok j a (by omega))
      | (refine end1 rfl rfl ⟨rb ?_, S.below⟩
         symm; refine okW_no hi0 hi ?_
         unfold okH; rw [decide_eq_false_iff_not]; omega)
  · repeat' (first | refine WP_seq ?_ | refine WP_region ?_ | refine wl_nil ?_ | refine then_normal ?_ | refine then_exit ?_ | refine inB_here ?_ | refine WP_ret ?_ | refine WP_exit ?_ | (refine g_assign ?_; refine st_assign rfl ?_) | (refine g_b_lss ?_; refine st_val rfl (r_lss rfl rfl) ?_) | (refine WP_cond rfl (fun h => ?_) (fun h => ?_) <;> (fail_if_success (have hh : true = true := h)) <;> (fail_if_success (have hh : false = false := h)) <;> (try simp only [decide_eq_true_eq, decide_eq_false_iff_not, Bool.not_eq_true', Bool.not_eq_false', Int.not_lt, Int.not_le] at h) <;> (try (exfalso; omega))))
    refine end1 rfl rfl ⟨rb ?_, S.below⟩
    symm; exact okW_of fun j a b => hok j a (by omega)
theorem validWR_spec {k : GWeek} {w0 : World} : CallsV Tryd.prog 48 #[.agg k.enc.toArray] w0 (.bool (okW k)) := by
  have S := St.start w0
  refine CallsV.mk ?_
  refine calls_enter Tryd.func48 rfl (by intro _ h; first | exact nomatch h.1 | (obtain ⟨_, h, _⟩ := h; exact nomatch h)) Tryd.ntmps48 rfl ?_
  repeat' (first | refine WP_seq ?_ | refine WP_region ?_ | refine wl_nil ?_ | refine then_normal ?_ | refine WP_block ?_ | (refine g_assign ?_; refine st_assign rfl ?_) | (refine g_box ?_; refine st_valE rfl (r_box S rfl) ?_; rintro _ w ⟨b, rfl, -, S'⟩; replace S := S'; clear S'))
  refine WP_loop (fun m σ w1 => ∃ i : Int, Has σ [(1, .pointer (some ⟨b, 0, none⟩)), (3, .int .i64 i)] ∧ St w0 w1 [.var b 25 k.enc] ∧ 0 ≤ i ∧ i ≤ 7 ∧ (∀ j : Int, 0 ≤ j → j < i → okH (nth (wkL k) j) = true) ∧ m = 7 - i.toNat) 7 ⟨0, ⟨rfl, rfl, trivial⟩, S, by omega, by omega, fun j a b => by omega, by omega⟩ ?_
  clear S
  rintro m σ w1 ⟨i, hs, S, hi0, hi1, hok, hm⟩
  refine WP_has hs ?_
  by_cases hi : i < 7
  · repeat' (first | refine WP_seq ?_ | refine WP_region ?_ | refine wl_nil ?_ | refine then_normal ?_ | refine inB_normal ?_ | refine then_ret ?_ | refine inB_ret ?_ | refine WP_ret ?_ | refine WP_skip ?_ | refine WP_block ?_ | refine WP_condT rfl ?_ | (refine g_guard ?_; refine st_off rfl ?_) | (refine g_move ?_; refine st_move rfl ?_) | (refine g_assign ?_; refine st_assign rfl ?_) | (refine g_pick ?_; first | refine st_pickT rfl rfl ?_ | refine st_pickF rfl rfl ?_) | (refine g_b_add ?_; (refine st_val rfl (r_addN rfl rfl ?_ ?_) ?_; (first | omega | (simp <;> omega)); (first | omega | (simp <;> omega)))) | (refine g_b_lss ?_; refine st_val rfl (r_lss rfl rfl) ?_) | (refine g_b_gtr ?_; refine st_val rfl (r_gtr rfl rfl) ?_) | (refine g_indexAddr ?_; (refine st_val rfl (r_indexAddrArrL rfl rfl ?_ ?_) ?_; (first | omega | (simp <;> omega)); (first | omega | (simp <;> omega)))) | (refine st_val rfl (r_loadWk (i := 0) S rfl rfl hi0 hi) ?_) | (refine wl_split rfl rfl (fun h => ?_) (fun h => ?_) <;> (fail_if_success (have hh : true = true := h)) <;> (fail_if_success (have hh : false = false := h)) <;> (try simp only [decide_eq_true_eq, decide_eq_false_iff_not, Bool.not_eq_true', Bool.not_eq_false', Int.not_lt, Int.not_le] at h) <;> (try (exfalso; omega))) | (refine WP_cond rfl (fun h => ?_) (fun h => ?_) <;> (fail_if_success (have hh : true = true := h)) <;> (fail_if_success (have hh : false = false := h)) <;> (try simp only [decide_eq_true_eq, decide_eq_false_iff_not, Bool.not_eq_true', Bool.not_eq_false', Int.not_lt, Int.not_le] at h) <;> (try (exfalso; omega))))
    all_goals first
      | (refine ⟨⟨_, ?_, i + 1, ⟨rfl, rfl, trivial⟩, S, by omega, by omega, fun j a b => ?_, rfl⟩⟩
         · omega
         · by_cases e : j = i
           · subst e; unfold okH; rw [decide_eq_true_eq]; omega
           · exact hok j a (by omega))
      | (refine end1 rfl rfl ⟨rb ?_, S.below⟩
         symm; refine okW_no hi0 hi ?_
         unfold okH; rw [decide_eq_false_iff_not]; omega)
  · repeat' (first | refine WP_seq ?_ | refine WP_region ?_ | refine wl_nil ?_ | refine then_normal ?_ | refine then_exit ?_ | refine inB_here ?_ | refine WP_ret ?_ | refine WP_exit ?_ | (refine g_move ?_; refine st_move rfl ?_) | (refine g_assign ?_; refine st_assign rfl ?_) | (refine g_b_lss ?_; refine st_val rfl (r_lss rfl rfl) ?_) | (refine WP_cond rfl (fun h => ?_) (fun h => ?_) <;> (fail_if_success (have hh : true = true := h)) <;> (fail_if_success (have hh : false = false := h)) <;> (try simp only [decide_eq_true_eq, decide_eq_false_iff_not, Bool.not_eq_true', Bool.not_eq_false', Int.not_lt, Int.not_le] at h) <;> (try (exfalso; omega))))
    refine end1 rfl rfl ⟨rb ?_, S.below⟩
    symm; exact okW_of fun j a b => hok j a (by omega)
theorem validW_is {k : GWeek} {b : Bool} {w0 : World} (h : okW k = b) : CallsV Tryd.prog 46 #[.agg k.enc.toArray] w0 (.bool b) := by rw [← h]; exact validW_spec
theorem validWR_is {k : GWeek} {b : Bool} {w0 : World} (h : okW k = b) : CallsV Tryd.prog 48 #[.agg k.enc.toArray] w0 (.bool b) := by rw [← h]; exact validWR_spec
/-- Whether a week has an hour. -/
def bitW (k : GWeek) (h : Int) : Bool := decide ((nth (wkL k) (h / 24 % 7)).fdiv (2 ^ (min (h % 24).toNat 64)) % 2 = 1)
theorem and_one {x : Int} (h0 : 0 ≤ x) (h1 : x ≤ 16777215) : bitsOp .and .i64 x 1 = x % 2 := by
  obtain ⟨n, rfl⟩ := Int.eq_ofNat_of_zero_le h0
  have e : (BitVec.ofInt IntKind.i64.bits (n : Int) &&& BitVec.ofInt IntKind.i64.bits 1).toNat = n % 2 := by
    rw [BitVec.toNat_and, BitVec.ofInt_natCast]
    show (BitVec.ofNat 64 n).toNat &&& 1 = n % 2
    rw [Nat.and_one_is_mod, BitVec.toNat_ofNat]
    omega
  unfold bitsOp
  simp only [e]
  rw [wrap_in (by omega) (by omega)]; omega
theorem shr_range {x : Int} (h0 : 0 ≤ x) (h1 : x ≤ 16777215) (m : Nat) : 0 ≤ x.fdiv (2 ^ m) ∧ x.fdiv (2 ^ m) ≤ 16777215 := by
  have hp : (0 : Int) < 2 ^ m := Int.pow_pos (by omega)
  rw [Int.fdiv_eq_ediv_of_nonneg _ (by omega)]
  exact ⟨Int.ediv_nonneg h0 (by omega), by have := Int.ediv_le_self (2 ^ m : Int) h0; omega⟩
theorem hasW_spec {k : GWeek} {h : Int} {w0 : World} (hk : okW k = true) (h0 : 0 ≤ h) (h1 : h ≤ 1000000000) : CallsV Tryd.prog 47 #[.agg k.enc.toArray, .int .i64 h] w0 (.bool (bitW k h)) := by
  have S := St.start w0
  have hr := okW_at hk (j := h / 24 % 7) (by omega) (by omega)
  refine CallsV.mk ?_
  refine calls_enter Tryd.func47 rfl (by intro _ h; first | exact nomatch h.1 | (obtain ⟨_, h, _⟩ := h; exact nomatch h)) Tryd.ntmps47 rfl ?_
  repeat' (first | refine WP_seq ?_ | refine WP_region ?_ | refine wl_nil ?_ | refine then_normal ?_ | refine WP_ret ?_ | (refine g_move ?_; refine st_move rfl ?_) | (refine g_assign ?_; refine st_assign rfl ?_) | (refine g_b_quo ?_; (refine st_val rfl (r_quoN rfl rfl ?_ ?_ ?_) ?_; (first | omega | (simp <;> omega)); (first | omega | (simp <;> omega)); (first | omega | (simp <;> omega)))) | (refine g_b_rem ?_; (refine st_val rfl (r_remN rfl rfl ?_ ?_) ?_; (first | omega | (simp <;> omega)); (first | omega | (simp <;> omega)))) | (refine g_b_eql ?_; refine st_val rfl (r_eql rfl rfl) ?_) | (refine g_b_and ?_; refine st_val rfl (r_and rfl rfl) ?_) | (refine g_b_shr ?_; (refine st_val rfl (r_shr rfl rfl ?_) ?_; (first | omega | (simp <;> omega)))) | (refine g_indexAddr ?_; (refine st_val rfl (r_indexAddrArrL rfl rfl ?_ ?_) ?_; (first | omega | (simp <;> omega)); (first | omega | (simp <;> omega)))) | (refine g_box ?_; refine st_valE rfl (r_box S rfl) ?_; rintro _ w ⟨b, rfl, -, S'⟩; replace S := S'; clear S') | (refine st_val rfl (r_loadWk (i := 0) S rfl rfl (by omega) (by omega)) ?_))
  all_goals
    refine end1 rfl rfl ⟨rb ?_, S.below⟩
    have h2 := shr_range hr.1 hr.2 (min (h % 24).toNat 64)
    unfold bitW
    rw [← and_one h2.1 h2.2]
    rfl
theorem hasWR_spec {k : GWeek} {t : Int} {w0 : World} (hk : okW k = true) (h0 : 0 ≤ t) (h1 : t ≤ 1000000000) : CallsV Tryd.prog 60 #[.agg k.enc.toArray, .int .i64 t] w0 (.bool (bitW k (t / 3600))) := by
  have S := St.start w0
  have hr := okW_at hk (j := t / 86400 % 7) (by omega) (by omega)
  refine CallsV.mk ?_
  refine calls_enter Tryd.func60 rfl (by intro _ h; first | exact nomatch h.1 | (obtain ⟨_, h, _⟩ := h; exact nomatch h)) Tryd.ntmps60 rfl ?_
  repeat' (first | refine WP_seq ?_ | refine WP_region ?_ | refine wl_nil ?_ | refine then_normal ?_ | refine WP_ret ?_ | (refine g_move ?_; refine st_move rfl ?_) | (refine g_assign ?_; refine st_assign rfl ?_) | (refine g_b_quo ?_; (refine st_val rfl (r_quoN rfl rfl ?_ ?_ ?_) ?_; (first | omega | (simp <;> omega)); (first | omega | (simp <;> omega)); (first | omega | (simp <;> omega)))) | (refine g_b_rem ?_; first | (refine st_val rfl (r_remN rfl rfl ?_ ?_) ?_; (first | omega | (simp <;> omega)); (first | omega | (simp <;> omega))) | (refine st_val rfl (r_rem rfl rfl ?_) ?_; (first | omega | (simp <;> omega)))) | (refine g_b_eql ?_; refine st_val rfl (r_eql rfl rfl) ?_) | (refine g_b_shr ?_; (refine st_val rfl (r_shr rfl rfl ?_) ?_; (first | omega | (simp <;> omega)))) | (refine g_indexAddr ?_; (refine st_val rfl (r_indexAddrArrL rfl rfl ?_ ?_) ?_; (first | omega | (simp <;> omega)); (first | omega | (simp <;> omega)))) | (refine g_box ?_; refine st_valE rfl (r_box S rfl) ?_; rintro _ w ⟨b, rfl, -, S'⟩; replace S := S'; clear S') | (refine st_val rfl (r_loadWk (i := 0) S rfl rfl (by omega) (by omega)) ?_))
  all_goals
    refine end1 rfl rfl ⟨rb ?_, S.below⟩
    unfold bitW
    rw [show t / 3600 / 24 % 7 = t / 86400 % 7 by omega, ← Int.tmod_eq_emod_of_nonneg (shr_range hr.1 hr.2 _).1]
    rfl
def inW (k : GWeek) (t : Int) : Bool := okW k && decide (0 ≤ t ∧ t < 10000000) && bitW k (t / 3600)
theorem inW_spec {k : GWeek} {t : Int} {w0 : World} : CallsV Tryd.prog 29 #[.agg k.enc.toArray, .int .i64 t] w0 (.bool (inW k t)) := by
  have S := St.start w0
  refine CallsV.mk ?_
  refine calls_enter Tryd.func29 rfl (by intro _ h; first | exact nomatch h.1 | (obtain ⟨_, h, _⟩ := h; exact nomatch h)) Tryd.ntmps29 rfl ?_
  by_cases hk : okW k = true
  · by_cases ht : 0 ≤ t ∧ t < 10000000
    · repeat' (first | refine WP_seq ?_ | refine WP_region ?_ | refine wl_nil ?_ | refine then_normal ?_ | refine WP_ret ?_ | (refine g_move ?_; refine st_move rfl ?_) | (refine g_assign ?_; refine st_assign rfl ?_) | (refine g_pick ?_; refine st_pickT rfl rfl ?_) | (refine g_b_quo ?_; (refine st_val rfl (r_quoN rfl rfl ?_ ?_ ?_) ?_; (first | omega | (simp <;> omega)); (first | omega | (simp <;> omega)); (first | omega | (simp <;> omega)))) | (refine g_b_lss ?_; refine st_val rfl (r_lss rfl rfl) ?_) | (refine g_b_geq ?_; refine st_val rfl (r_geq rfl rfl) ?_) | (refine g_load ?_; refine st_val rfl (r_loadVarA (i := 0) S rfl rfl rfl rfl) ?_) | (refine g_callV ?_; first | (refine st_callV rfl (r_call1 rfl rfl) (validW_is hk) ?_; intro w hb; replace S := S.grow hb; clear hb) | (refine st_callV rfl (r_call2 rfl rfl rfl) (hasW_spec hk (by omega) (by omega)) ?_; intro w hb; replace S := S.grow hb; clear hb)) | (refine g_box ?_; refine st_valE rfl (r_box S rfl) ?_; rintro _ w ⟨b, rfl, -, S'⟩; replace S := S'; clear S') | (refine wl_split rfl rfl (fun h => ?_) (fun h => ?_) <;> (fail_if_success (have hh : true = true := h)) <;> (fail_if_success (have hh : false = false := h)) <;> (try simp only [decide_eq_true_eq, decide_eq_false_iff_not, Bool.not_eq_true', Bool.not_eq_false', Int.not_lt, Int.not_le] at h) <;> (try (exfalso; omega))))
      all_goals (refine end1 rfl rfl ⟨rb ?_, S.below⟩; unfold inW; rw [hk, decide_eq_true ht]; first | rfl | simp_all)
    · repeat' (first | refine WP_seq ?_ | refine WP_region ?_ | refine wl_nil ?_ | refine then_normal ?_ | refine WP_ret ?_ | (refine g_guard ?_; refine st_off rfl ?_) | (refine g_move ?_; refine st_move rfl ?_) | (refine g_assign ?_; refine st_assign rfl ?_) | (refine g_pick ?_; first | refine st_pickT rfl rfl ?_ | refine st_pickF rfl rfl ?_) | (refine g_b_lss ?_; refine st_val rfl (r_lss rfl rfl) ?_) | (refine g_b_geq ?_; refine st_val rfl (r_geq rfl rfl) ?_) | (refine g_load ?_; refine st_val rfl (r_loadVarA (i := 0) S rfl rfl rfl rfl) ?_) | (refine g_callV ?_; (refine st_callV rfl (r_call1 rfl rfl) (validW_is hk) ?_; intro w hb; replace S := S.grow hb; clear hb)) | (refine g_box ?_; refine st_valE rfl (r_box S rfl) ?_; rintro _ w ⟨b, rfl, -, S'⟩; replace S := S'; clear S') | (refine wl_split rfl rfl (fun h => ?_) (fun h => ?_) <;> (fail_if_success (have hh : true = true := h)) <;> (fail_if_success (have hh : false = false := h)) <;> (try simp only [decide_eq_true_eq, decide_eq_false_iff_not, Bool.not_eq_true', Bool.not_eq_false', Int.not_lt, Int.not_le] at h) <;> (try (exfalso; omega))))
      all_goals (refine end1 rfl rfl ⟨rb ?_, S.below⟩; unfold inW; rw [hk, decide_eq_false ht]; rfl)
  · have hk' : okW k = false := by simpa using hk
    repeat' (first | refine WP_seq ?_ | refine WP_region ?_ | refine wl_nil ?_ | refine then_normal ?_ | refine WP_ret ?_ | (refine g_guard ?_; refine st_off rfl ?_) | (refine g_move ?_; refine st_move rfl ?_) | (refine g_assign ?_; refine st_assign rfl ?_) | (refine g_pick ?_; refine st_pickF rfl rfl ?_) | (refine g_load ?_; refine st_val rfl (r_loadVarA (i := 0) S rfl rfl rfl rfl) ?_) | (refine g_callV ?_; (refine st_callV rfl (r_call1 rfl rfl) (validW_is hk') ?_; intro w hb; replace S := S.grow hb; clear hb)) | (refine g_box ?_; refine st_valE rfl (r_box S rfl) ?_; rintro _ w ⟨b, rfl, -, S'⟩; replace S := S'; clear S'))
    all_goals (refine end1 rfl rfl ⟨rb ?_, S.below⟩; unfold inW; rw [hk']; rfl)
theorem inWR_spec {k : GWeek} {t : Int} {w0 : World} : CallsV Tryd.prog 55 #[.agg k.enc.toArray, .int .i64 t] w0 (.bool (inW k t)) := by
  have S := St.start w0
  refine CallsV.mk ?_
  refine calls_enter Tryd.func55 rfl (by intro _ h; first | exact nomatch h.1 | (obtain ⟨_, h, _⟩ := h; exact nomatch h)) Tryd.ntmps55 rfl ?_
  by_cases hk : okW k = true
  · by_cases ht : 0 ≤ t ∧ t < 10000000
    · repeat' (first | refine WP_seq ?_ | refine WP_region ?_ | refine wl_nil ?_ | refine then_normal ?_ | refine WP_ret ?_ | (refine g_move ?_; refine st_move rfl ?_) | (refine g_assign ?_; refine st_assign rfl ?_) | (refine g_pick ?_; refine st_pickT rfl rfl ?_) | (refine g_b_lss ?_; refine st_val rfl (r_lss rfl rfl) ?_) | (refine g_b_geq ?_; refine st_val rfl (r_geq rfl rfl) ?_) | (refine g_load ?_; refine st_val rfl (r_loadVarA (i := 0) S rfl rfl rfl rfl) ?_) | (refine g_callV ?_; first | (refine st_callV rfl (r_call1 rfl rfl) (validWR_is hk) ?_; intro w hb; replace S := S.grow hb; clear hb) | (refine st_callV rfl (r_call2 rfl rfl rfl) (hasWR_spec hk (by omega) (by omega)) ?_; intro w hb; replace S := S.grow hb; clear hb)) | (refine g_box ?_; refine st_valE rfl (r_box S rfl) ?_; rintro _ w ⟨b, rfl, -, S'⟩; replace S := S'; clear S') | (refine wl_split rfl rfl (fun h => ?_) (fun h => ?_) <;> (fail_if_success (have hh : true = true := h)) <;> (fail_if_success (have hh : false = false := h)) <;> (try simp only [decide_eq_true_eq, decide_eq_false_iff_not, Bool.not_eq_true', Bool.not_eq_false', Int.not_lt, Int.not_le] at h) <;> (try (exfalso; omega))))
      all_goals (refine end1 rfl rfl ⟨rb ?_, S.below⟩; unfold inW; rw [hk, decide_eq_true ht]; first | rfl | simp_all)
    · repeat' (first | refine WP_seq ?_ | refine WP_region ?_ | refine wl_nil ?_ | refine then_normal ?_ | refine WP_ret ?_ | (refine g_guard ?_; refine st_off rfl ?_) | (refine g_move ?_; refine st_move rfl ?_) | (refine g_assign ?_; refine st_assign rfl ?_) | (refine g_pick ?_; first | refine st_pickT rfl rfl ?_ | refine st_pickF rfl rfl ?_) | (refine g_b_lss ?_; refine st_val rfl (r_lss rfl rfl) ?_) | (refine g_b_geq ?_; refine st_val rfl (r_geq rfl rfl) ?_) | (refine g_load ?_; refine st_val rfl (r_loadVarA (i := 0) S rfl rfl rfl rfl) ?_) | (refine g_callV ?_; (refine st_callV rfl (r_call1 rfl rfl) (validWR_is hk) ?_; intro w hb; replace S := S.grow hb; clear hb)) | (refine g_box ?_; refine st_valE rfl (r_box S rfl) ?_; rintro _ w ⟨b, rfl, -, S'⟩; replace S := S'; clear S') | (refine wl_split rfl rfl (fun h => ?_) (fun h => ?_) <;> (fail_if_success (have hh : true = true := h)) <;> (fail_if_success (have hh : false = false := h)) <;> (try simp only [decide_eq_true_eq, decide_eq_false_iff_not, Bool.not_eq_true', Bool.not_eq_false', Int.not_lt, Int.not_le] at h) <;> (try (exfalso; omega))))
      all_goals (refine end1 rfl rfl ⟨rb ?_, S.below⟩; unfold inW; rw [hk, decide_eq_false ht]; rfl)
  · have hk' : okW k = false := by simpa using hk
    repeat' (first | refine WP_seq ?_ | refine WP_region ?_ | refine wl_nil ?_ | refine then_normal ?_ | refine WP_ret ?_ | (refine g_guard ?_; refine st_off rfl ?_) | (refine g_move ?_; refine st_move rfl ?_) | (refine g_assign ?_; refine st_assign rfl ?_) | (refine g_pick ?_; refine st_pickF rfl rfl ?_) | (refine g_load ?_; refine st_val rfl (r_loadVarA (i := 0) S rfl rfl rfl rfl) ?_) | (refine g_callV ?_; (refine st_callV rfl (r_call1 rfl rfl) (validWR_is hk') ?_; intro w hb; replace S := S.grow hb; clear hb)) | (refine g_box ?_; refine st_valE rfl (r_box S rfl) ?_; rintro _ w ⟨b, rfl, -, S'⟩; replace S := S'; clear S'))
    all_goals (refine end1 rfl rfl ⟨rb ?_, S.below⟩; unfold inW; rw [hk']; rfl)
end Go.Proofs.YteplelijhkmbkaaDoor
