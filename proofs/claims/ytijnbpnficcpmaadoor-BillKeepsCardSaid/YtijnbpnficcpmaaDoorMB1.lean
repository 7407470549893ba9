/- Merged texts: BA, BB, BC, BD, BE, BF, BG, BH, BI, BJ, BK, BL, BM, BN. -/
import Derived.Test.YtijnbpnficcpmaaDoorMC1
import Derived.Test.YtijnbpnficcpmaaDoorMG2
/- Dividing a total by weights, plainly. -/
namespace Go.Proofs.YtijnbpnficcpmaaDoor
open Go Go.Gx Go.RowKit
set_option linter.unusedVariables false
set_option linter.unusedSimpArgs false

/-! ### The sorted order of numbers -/
def insG (c : Int → Int → Bool) (out : List Int) (i : Int) : List Int := out.takeWhile (fun e => !c i e) ++ i :: out.dropWhile (fun e => !c i e)
def ordG (c : Int → Int → Bool) : Nat → List Int
  | 0 => []
  | n + 1 => insG c (ordG c n) n
theorem ordG_ok {c : Int → Int → Bool} (hc : SW c) : ∀ n, (ordG c n).Perm (tab idf n) ∧ (ordG c n).Pairwise (RS c)
  | 0 => ⟨List.Perm.refl _, List.Pairwise.nil⟩
  | n + 1 => by
    obtain ⟨hp, hw⟩ := ordG_ok hc n
    have hlt : ∀ y ∈ ordG c n, y < (n : Int) := fun y hy => by
      have := hp.mem_iff.1 hy
      unfold tab at this
      obtain ⟨k, hk, rfl⟩ := List.mem_map.1 this
      have := List.mem_range.1 hk; simp only [idf]; omega
    have e : (ordG c n).takeWhile (fun e => !c n e) ++ (ordG c n).dropWhile (fun e => !c n e) = ordG c n := List.takeWhile_append_dropWhile
    refine ⟨?_, ?_⟩
    · show (insG c (ordG c n) n).Perm _
      unfold insG
      refine List.perm_middle.trans ?_
      have et : tab idf (n + 1) = tab idf n ++ [(n : Int)] := by unfold tab; rw [List.range_succ, List.map_append]; rfl
      rw [e, et]
      exact (List.perm_append_singleton _ _).symm.trans (hp.append_right _)
    · show (insG c (ordG c n) n).Pairwise _
      unfold insG
      refine put_fits hc (by rw [e]; exact hw) (by rw [e]; exact hlt) (fun A' y h => takeWhile_last h) (sorted_drop hc hw hlt)
theorem ordG_uniq {c : Int → Int → Bool} (hc : SW c) {n : Nat} {l : List Int} (hp : l.Perm (tab idf n)) (hw : l.Pairwise (RS c)) : l = ordG c n :=
  rs_uniq hc (hp.trans (ordG_ok hc n).1.symm) hw (ordG_ok hc n).2
theorem mem_tab {n : Nat} {x : Int} : x ∈ tab idf n ↔ 0 ≤ x ∧ x < n := by
  unfold tab
  rw [List.mem_map]
  constructor
  · rintro ⟨k, hk, rfl⟩; have := List.mem_range.1 hk; simp only [idf]; omega
  · rintro ⟨a, b⟩; exact ⟨x.toNat, List.mem_range.2 (by omega), by simp only [idf]; omega⟩
theorem mem_ordG {c : Int → Int → Bool} (hc : SW c) {n : Nat} {x : Int} : x ∈ ordG c n ↔ 0 ≤ x ∧ x < n := ((ordG_ok hc n).1.mem_iff).trans mem_tab
theorem ordG_len {c : Int → Int → Bool} (hc : SW c) {n : Nat} : (ordG c n).length = n := by rw [(ordG_ok hc n).1.length_eq, tab_len]
theorem pw_nodup {c : Int → Int → Bool} (hc : SW c) {l : List Int} (h : l.Pairwise (RS c)) : l.Nodup := h.imp fun {a b} hr e => by subst e; exact rs_asymm hc hr hr
theorem ordG_nodup {c : Int → Int → Bool} (hc : SW c) {n : Nat} : (ordG c n).Nodup := pw_nodup hc (ordG_ok hc n).2

/-! ### Sums -/
def sumN (f : Nat → Int) : Nat → Int
  | 0 => 0
  | n + 1 => sumN f n + f n
theorem sumN_congr {f g : Nat → Int} : ∀ {n : Nat}, (∀ k, k < n → f k = g k) → sumN f n = sumN g n
  | 0, _ => rfl
  | n + 1, h => by rw [sumN, sumN, sumN_congr fun k hk => h k (by omega), h n (by omega)]
theorem sumN_add (f g : Nat → Int) : ∀ n : Nat, sumN (fun k => f k + g k) n = sumN f n + sumN g n
  | 0 => rfl
  | n + 1 => by rw [sumN, sumN, sumN, sumN_add f g n]; omega
theorem sumN_mul (a : Int) (f : Nat → Int) : ∀ n : Nat, sumN (fun k => a * f k) n = a * sumN f n
  | 0 => by simp [sumN]
  | n + 1 => by rw [sumN, sumN, sumN_mul a f n, Int.mul_add]
theorem sumN_le {f g : Nat → Int} : ∀ {n : Nat}, (∀ k, k < n → f k ≤ g k) → sumN f n ≤ sumN g n
  | 0, _ => by simp [sumN]
  | n + 1, h => by have h1 := sumN_le (n := n) fun k hk => h k (by omega); have h2 := h n (by omega); rw [sumN, sumN]; omega
theorem sumN_nonneg {f : Nat → Int} {n : Nat} (h : ∀ k, k < n → 0 ≤ f k) : 0 ≤ sumN f n := by
  have := @sumN_le (fun _ => 0) f n h
  have e : ∀ m, sumN (fun _ => (0 : Int)) m = 0 := fun m => by
    induction m with
    | zero => rfl
    | succ m ih => rw [sumN, ih]; rfl
  rw [e] at this; exact this
theorem sumN_const (a : Int) : ∀ n : Nat, sumN (fun _ => a) n = a * n
  | 0 => by simp [sumN]
  | n + 1 => by rw [sumN, sumN_const a n, Int.natCast_succ, Int.mul_add, Int.mul_one]
theorem sumN_zero_of {f : Nat → Int} {n : Nat} (h : ∀ k, k < n → 0 ≤ f k) (hz : sumN f n = 0) : ∀ k, k < n → f k = 0 := by
  induction n with
  | zero => intro k hk; omega
  | succ n ih =>
    have h1 := @sumN_nonneg f n fun k hk => h k (by omega)
    have h2 := h n (by omega)
    rw [sumN] at hz
    intro k hk
    by_cases e : k = n
    · subst e; omega
    · exact ih (fun k hk => h k (by omega)) (by omega) k (by omega)
/-! ### Shares -/
/-- The sum of the first numbers of a list. -/
abbrev sumW (w : List Int) : Int := sumN (fun k => nth w (k : Int)) w.length
def quoW (t s : Int) (w : List Int) (i : Int) : Int := t * nth w i / s
def remW (t s : Int) (w : List Int) (i : Int) : Int := t * nth w i % s
def cmpW (t s : Int) (w : List Int) (x y : Int) : Int := cmp1 (remW t s w y) (remW t s w x)
def cW (t s : Int) (w : List Int) (x y : Int) : Bool := decide (cmpW t s w x y < 0)
theorem cW_iff {t s : Int} {w : List Int} {x y : Int} : cW t s w x y = true ↔ remW t s w y < remW t s w x := by
  unfold cW cmpW cmp1
  rw [decide_eq_true_iff]
  (repeat' split) <;> omega
theorem cW_sw (t s : Int) (w : List Int) : SW (cW t s w) where
  irrefl x := by
    cases h : cW t s w x x with
    | false => rfl
    | true => rw [cW_iff] at h; omega
  trans x y z h1 h2 := by rw [cW_iff] at *; omega
  ntrans x y z h1 h2 := by
    cases h : cW t s w x z with
    | false => rfl
    | true =>
      have k1 : ¬ cW t s w x y = true := by rw [h1]; simp
      have k2 : ¬ cW t s w y z = true := by rw [h2]; simp
      rw [cW_iff] at h k1 k2; omega
/-- What is left when all have got the whole numbers. -/
def leftW (t s : Int) (w : List Int) : Int := t - sumN (fun k => quoW t s w k) w.length
def turnW (t s : Int) (w : List Int) : List Int := ordG (cW t s w) w.length
/-- Shares after some of the first in turn have got one more. -/
def shP (t s : Int) (w : List Int) (p : Nat) : List Int := tab (fun k => quoW t s w k + if (k : Int) ∈ (turnW t s w).take p then 1 else 0) w.length
def shW (t : Int) (w : List Int) : List Int := shP t (sumW w) w (leftW t (sumW w) w).toNat
section
variable {t s : Int} {w : List Int}
theorem left_eq (hs : 0 < s) (e : s = sumW w) : sumN (fun k => remW t s w k) w.length = s * leftW t s w := by
  have h1 : sumN (fun k => t * nth w (k : Int)) w.length = t * s := by rw [sumN_mul, e]
  have h2 : sumN (fun k => t * nth w (k : Int)) w.length = s * sumN (fun k => quoW t s w k) w.length + sumN (fun k => remW t s w k) w.length := by
    rw [← sumN_mul, ← sumN_add]
    exact sumN_congr fun k hk => (Int.mul_ediv_add_emod ..).symm
  unfold leftW
  rw [Int.mul_sub, Int.mul_comm s t]
  omega
theorem rem_pos (hs : 0 < s) (k : Int) : 0 ≤ remW t s w k ∧ remW t s w k < s := ⟨Int.emod_nonneg _ (by omega), Int.emod_lt_of_pos _ hs⟩
theorem left_rng (hs : 0 < s) (e : s = sumW w) : 0 ≤ leftW t s w ∧ leftW t s w ≤ w.length := by
  have h := @left_eq t s w hs e
  have h0 := @sumN_nonneg (fun k => remW t s w k) w.length fun k _ => (rem_pos hs k).1
  have h1 := @sumN_le (fun k => remW t s w k) (fun _ => s) w.length fun k _ => by have := (@rem_pos t s w hs k).2; omega
  rw [sumN_const] at h1
  rw [h] at h0 h1
  exact ⟨Int.nonneg_of_mul_nonneg_right h0 hs, Int.le_of_mul_le_mul_left h1 hs⟩
theorem turnW_len : (turnW t s w).length = w.length := ordG_len (cW_sw t s w)
theorem turnW_mem {x : Int} : x ∈ turnW t s w ↔ 0 ≤ x ∧ x < w.length := mem_ordG (cW_sw t s w)
theorem turn_fresh {p : Nat} (hp : p < w.length) : nth (turnW t s w) (p : Int) ∉ (turnW t s w).take p := by
  have hn : (turnW t s w).Nodup := ordG_nodup (cW_sw t s w)
  have hg := nth_get (l := turnW t s w) (i := (p : Int)) (by omega) (by rw [turnW_len]; omega)
  rw [Int.toNat_natCast] at hg
  rw [← List.take_append_drop p (turnW t s w)] at hn
  have hd : nth (turnW t s w) (p : Int) ∈ (turnW t s w).drop p := List.mem_of_getElem? (i := 0) (by rw [List.getElem?_drop, Nat.add_zero]; exact hg)
  intro hm
  exact (List.nodup_append.1 hn).2.2 _ hm _ hd rfl
theorem shP_step {p : Nat} {x : Int} (hp : p < w.length) (hx : nth (turnW t s w) (p : Int) = x) : (shP t s w p).set x.toNat (nth (shP t s w p) x + 1) = shP t s w (p + 1) := by
  have hg := nth_get (l := turnW t s w) (i := (p : Int)) (by omega) (by rw [turnW_len]; omega)
  have hf := @turn_fresh t s w p hp
  have hm := nth_mem (l := turnW t s w) (i := (p : Int)) (by omega) (by rw [turnW_len]; omega)
  rw [Int.toNat_natCast] at hg
  rw [hx] at hg hf hm
  have hin := turnW_mem.1 hm
  have e : (turnW t s w).take (p + 1) = (turnW t s w).take p ++ [x] := by rw [List.take_add_one, hg]; rfl
  have e1 : nth (shP t s w p) x = quoW t s w x := by
    unfold shP; rw [tab_nth (i := x.toNat) (by omega) (by omega), show ((x.toNat : Nat) : Int) = x by omega, if_neg hf, Int.add_zero]
  rw [e1]
  unfold shP
  rw [tab_put (i := x.toNat) (by omega) (by omega)]
  refine tab_ext fun k hk => ?_
  rw [e]
  by_cases hkx : k = x.toNat
  · have h2 : (k : Int) = x := by omega
    rw [if_pos hkx, h2, if_pos (by simp)]
  · have h2 : (k : Int) ≠ x := by omega
    rw [if_neg hkx]
    congr 1
    by_cases hk2 : (k : Int) ∈ (turnW t s w).take p
    · rw [if_pos hk2, if_pos (List.mem_append.2 (.inl hk2))]
    · rw [if_neg hk2, if_neg (fun h => (List.mem_append.1 h).elim hk2 (fun h => h2 (List.mem_singleton.1 h)))]
theorem shP_zero : shP t s w 0 = tab (fun k => quoW t s w k) w.length := by
  unfold shP
  refine tab_ext fun k hk => ?_
  rw [List.take_zero, if_neg (by simp), Int.add_zero]
theorem shP_len {p : Nat} : (shP t s w p).length = w.length := by unfold shP; rw [tab_len]
theorem shP_nth {p : Nat} {x : Int} (h0 : 0 ≤ x) (hx : x < w.length) : quoW t s w x ≤ nth (shP t s w p) x ∧ nth (shP t s w p) x ≤ quoW t s w x + 1 := by
  unfold shP; rw [tab_nth (i := x.toNat) (by omega) (by omega), show ((x.toNat : Nat) : Int) = x by omega]
  split <;> omega
end
end Go.Proofs.YtijnbpnficcpmaaDoor
namespace Go.Proofs.YtijnbpnficcpmaaDoor
open Go Go.Gx Go.RowKit
set_option linter.unusedVariables false
set_option linter.unusedSimpArgs false

/-- A comparator of a row of numbers: a function's number and what it has captured. -/
abbrev cvG (kc : Nat) (cc : List Value) : Value := .func (.func kc) #[] cc.toArray
structure CmpAt (w0 : World) (kc : Nat) (cc : List Value) (cf : Int → Int → Int) (M : Nat) (v : Value) (N : Nat) (ex : List Ob) : Prop where
  mk :: (out : ∀ (f : Nat → Int) (w : World) (x y : Int), St w0 w (rowT v f N :: ex) → (0 ≤ x ∧ x < M) → (0 ≤ y ∧ y < M) → CallsV Tryd.prog kc (.int .i64 x :: .int .i64 y :: cc).toArray w (.int .i64 (cf x y)))
theorem CmpAt.at {cf : Int → Int → Int} {kc M : Nat} {cc : List Value} {v : Value} {f : Nat → Int} {N : Nat} {x y : Int} {ex : List Ob} {w0 w : World} (hC : CmpAt w0 kc cc cf M v N ex) (S : St w0 w (rowT v f N :: ex)) (hx : 0 ≤ x ∧ x < M) (hy : 0 ≤ y ∧ y < M) :
    CallsV Tryd.prog kc (.int .i64 x :: .int .i64 y :: cc).toArray w (.int .i64 (cf x y)) := hC.out f w x y S hx hy
theorem insG_run {cf : Int → Int → Int} {kc M : Nat} [Enters Tryd.prog kc] {cc : List Value} {v : Value} {f : Nat → Int} {N a b : Nat} {x y : Int} {ex : List Ob} {w0 w : World} (hC : CmpAt w0 kc cc cf M v N ex) (hsw : SW (fun x y => decide (cf x y < 0))) (S : St w0 w (rowT v f N :: ex)) (hx : x = a) (hy : y = b) (hab : a < b) (hb : b ≤ N) (hN : N ≤ 1000000000)
    (hf : ∀ k, k < N → 0 ≤ f k ∧ f k < M) (hasc : ∀ k k', a ≤ k → k < k' → k' < b → f k < f k') :
    CallsW Tryd.prog 109 #[v, .int .i64 x, .int .i64 y, cvG kc cc] w (fun _ w' => ∃ g, Srt (fun x y => decide (cf x y < 0)) f g a b ∧ St w0 w' (rowT v g N :: ex)) := by
  subst hx hy
  refine CallsW.mk ?_
  refine calls_enter Tryd.func109 rfl (by intro _ h; first | exact nomatch h.1 | (obtain ⟨_, h, _⟩ := h; exact nomatch h)) Tryd.ntmps109 rfl ?_
  repeat' (first | refine WP_seq ?_ | refine WP_region ?_ | refine wl_nil ?_ | refine then_normal ?_ | refine WP_block ?_ | (refine g_move ?_; refine st_move rfl ?_) | (refine g_assign ?_; refine st_assign rfl ?_) | (refine g_b_add ?_; (refine st_val rfl (r_addN rfl rfl ?_ ?_) ?_; (first | omega | (simp <;> omega)); (first | omega | (simp <;> omega)))))
  refine WP_loop (fun k σ w1 => ∃ (i : Nat) (p : Int) (g : Nat → Int), Has σ [(0, v), (1, .int .i64 (a : Int)), (2, .int .i64 (b : Int)), (3, cvG kc cc), (8, .int .i64 p)] ∧ St w0 w1 (rowT v g N :: ex) ∧ p = i ∧ a < i ∧ i ≤ b ∧ Srt (fun x y => decide (cf x y < 0)) f g a i ∧ k = b - i) (b - (a + 1)) ⟨a + 1, _, f, ⟨rfl, rfl, rfl, rfl, rfl, trivial⟩, S, by omega, by omega, by omega, Srt.refl, by omega⟩ ?_
  clear S
  rintro k σ w1 ⟨i, p, g, hs, S, rfl, hai, hib, hg, rfl⟩
  refine WP_has hs ?_
  by_cases hi : i < b
  · have hgb := hg.bound (by omega) hf
    repeat' (first | refine WP_seq ?_ | refine WP_region ?_ | refine wl_nil ?_ | refine then_normal ?_ | refine WP_skip ?_ | refine WP_block ?_ | (refine g_move ?_; refine st_move rfl ?_) | (refine g_assign ?_; refine st_assign rfl ?_) | (refine g_b_lss ?_; refine st_val rfl (r_lss rfl rfl) ?_) | (refine WP_cond rfl (fun h => ?_) (fun h => ?_) <;> (fail_if_success (have hh : true = true := h)) <;> (fail_if_success (have hh : false = false := h)) <;> (try simp only [decide_eq_true_eq, decide_eq_false_iff_not, Bool.not_eq_true', Bool.not_eq_false', Int.not_lt, Int.not_le] at h) <;> (try (exfalso; omega))))
    refine WP_loop (fun k σ w1 => ∃ (j : Nat) (q : Int), Has σ [(0, v), (1, .int .i64 (a : Int)), (2, .int .i64 (b : Int)), (3, cvG kc cc), (8, .int .i64 (i : Int)), (9, .int .i64 q)] ∧ St w0 w1 (rowT v (insF g j i) N :: ex) ∧ q = j ∧ a ≤ j ∧ j ≤ i ∧ (∀ k, j ≤ k → k < i → decide (cf (g i) (g k) < 0) = true) ∧ k = j) i ⟨i, _, ⟨rfl, rfl, rfl, rfl, rfl, rfl, trivial⟩, by rw [insF_start]; exact S, rfl, by omega, by omega, fun k p q => by omega, rfl⟩ ?_
    clear S hs
    rintro k σ w1 ⟨j, q, hs, S, rfl, haj, hji, hall, hkj⟩
    refine WP_has hs ?_
    have hib' := insF_bound (j := j) (by omega : i < N) hgb
    have hl := @tab_len (insF g j i) N
    by_cases haj' : a < j
    · have e1 : nth (tab (insF g j i) N) (j : Int) = g i := by rw [tab_nth (i := j) (by omega) rfl]; unfold insF; rw [if_pos rfl]
      have e2 : nth (tab (insF g j i) N) ((j : Int) - 1) = g (j - 1) := by rw [tab_nth (i := j - 1) (by omega) (by omega)]; unfold insF; rw [if_neg (by omega), if_neg (by omega)]
      have b1 := hgb i (by omega)
      have b2 := hgb (j - 1) (by omega)
      by_cases hc : cf (g i) (g (j - 1)) < 0
      · repeat' (first | refine WP_seq ?_ | refine then_normal ?_ | refine WP_skip ?_ | refine WP_block ?_ | (refine Pm.WP_drawPerm [0,1,5,6,7,8,9,10,11,12,13] [2,3,4] [14,15,16,17] (by kernel_rfl) (by decide +kernel) (by decide +kernel) ?_; intro w hb; replace S := S.grow hb; clear hb) | refine WP_draw (by kernel_rfl) (by kernel_rfl) ?_ | (refine ql_nil ?_; intro w hb; replace S := S.grow hb; clear hb) | (refine g_indexAddr ?_; (refine st_val rfl (r_indexAddr (S.rdRow (D := (fInt .i64)) (i := 0) rfl) rfl rfl ?_ ?_) ?_; (first | omega | (simp <;> omega)); (first | omega | (simp <;> omega)))) | (refine gq_move ?_; refine q_move rfl ?_) | (refine gq_pick ?_; refine q_pickT rfl rfl ?_) | (refine gq_b_sub ?_; (refine q_val rfl (fun w' hb => r_subN rfl rfl ?_ ?_) ?_; (first | omega | (simp <;> omega)); (first | omega | (simp <;> omega)))) | (refine gq_b_lss ?_; refine q_val rfl (fun w' hb => r_lss rfl rfl) ?_) | (refine gq_b_gtr ?_; refine q_val rfl (fun w' hb => r_gtr rfl rfl) ?_) | (refine gq_indexAddr ?_; (refine q_val rfl (fun w' hb => r_indexAddr ((S.grow hb).rdRow (D := (fInt .i64)) (i := 0) rfl) rfl rfl ?_ ?_) ?_; (first | omega | (simp <;> omega)); (first | omega | (simp <;> omega)))) | (refine gq_load ?_; (refine q_val rfl (fun w' hb => r_loadElem1 ((S.grow hb).rdRow (D := (fInt .i64)) (i := 0) rfl) rfl ?_ ?_ rfl) ?_; (first | omega | (simp <;> omega)); (first | omega | (simp <;> omega)))) | (refine gq_callV ?_; refine q_callV rfl (fun w' hb => r_call2 rfl rfl rfl) (fun w' hb => (hC.at (S.grow hb) (by rw [e1]; exact b1) (by rw [e2]; exact b2))) ?_) | (refine Pm.qp_nil ?_; intro w hb; replace S := S.grow hb; clear hb) | (refine Pm.qp_val rfl (fun w' => r_subN rfl rfl ?_ ?_) ?_; omega; omega) | (refine Pm.qp_val rfl (fun w' => ⟨rfl⟩) ?_) | (refine ql_split rfl rfl (fun h => ?_) (fun h => ?_) <;> (fail_if_success (have hh : true = true := h)) <;> (fail_if_success (have hh : false = false := h)) <;> (try simp only [decide_eq_true_eq, decide_eq_false_iff_not, Bool.not_eq_true', Bool.not_eq_false', Int.not_lt, Int.not_le] at h) <;> (try (exfalso; omega)) <;> (try (exfalso; rw [e1, e2] at h; omega; done))) | (refine WP_cond rfl (fun h => ?_) (fun h => ?_) <;> (fail_if_success (have hh : true = true := h)) <;> (fail_if_success (have hh : false = false := h)) <;> (try simp only [decide_eq_true_eq, decide_eq_false_iff_not, Bool.not_eq_true', Bool.not_eq_false', Int.not_lt, Int.not_le] at h) <;> (try (exfalso; omega)) <;> (try (exfalso; rw [e1, e2] at h; omega; done))))
        refine st_skipE rfl (r_storeElem (i := 0) (D := fInt .i64) S rfl rfl rfl rfl (fun c hc => by cases List.mem_singleton.1 hc; rfl) (by omega) (by omega)) ?_
        intro w S'
        replace S : St w0 w (rowT v (fun k => if k = j then g (j - 1) else insF g j i k) N :: ex) := by
          rw [tab_put (i := j) (by omega) (by omega), e2] at S'; exact S'
        clear S'
        have hl := @tab_len (fun k => if k = j then g (j - 1) else insF g j i k) N
        repeat' ((refine g_indexAddr ?_; (refine st_val rfl (r_indexAddr (S.rdRow (D := (fInt .i64)) (i := 0) rfl) rfl rfl ?_ ?_) ?_; (first | omega | (simp <;> omega)); (first | omega | (simp <;> omega)))))
        refine st_skipE rfl (r_storeElem (i := 0) (D := fInt .i64) S rfl rfl rfl rfl (fun c hc => by cases List.mem_singleton.1 hc; rfl) (by omega) (by omega)) ?_
        intro w S'
        replace S : St w0 w (rowT v (insF g (j - 1) i) N :: ex) := by
          rw [tab_put (i := j - 1) (by omega) (by omega), e1] at S'
          refine S'.eqos (congrArg (fun o => o :: ex) (rowT_ext fun k hk => ?_))
          unfold insF
          (repeat' split) <;> first | rfl | omega | (congr 1; omega)
        clear S'
        repeat' (first | refine WP_region ?_ | refine wl_nil ?_ | refine then_normal ?_ | refine inB_normal ?_ | (refine g_move ?_; refine st_move rfl ?_) | (refine g_assign ?_; refine st_assign rfl ?_) | (refine g_b_sub ?_; (refine st_val rfl (r_subN rfl rfl ?_ ?_) ?_; (first | omega | (simp <;> omega)); (first | omega | (simp <;> omega)))))
        refine ⟨⟨_, ?_, j - 1, _, ⟨rfl, rfl, rfl, rfl, rfl, rfl, trivial⟩, S, by omega, by omega, by omega, fun k' p q => ?_, rfl⟩⟩
        · omega
        · by_cases e : k' = j - 1
          · subst e; exact decide_eq_true hc
          · exact hall k' (by omega) q
      · repeat' (first | refine WP_seq ?_ | refine WP_region ?_ | refine wl_nil ?_ | refine then_normal ?_ | refine inB_normal ?_ | refine then_exit ?_ | refine inB_here ?_ | refine WP_exit ?_ | refine WP_draw (by kernel_rfl) (by kernel_rfl) ?_ | (refine ql_nil ?_; intro w hb; replace S := S.grow hb; clear hb) | (refine g_move ?_; refine st_move rfl ?_) | (refine g_assign ?_; refine st_assign rfl ?_) | (refine g_b_add ?_; (refine st_val rfl (r_addN rfl rfl ?_ ?_) ?_; (first | omega | (simp <;> omega)); (first | omega | (simp <;> omega)))) | (refine gq_move ?_; refine q_move rfl ?_) | (refine gq_pick ?_; refine q_pickT rfl rfl ?_) | (refine gq_b_sub ?_; (refine q_val rfl (fun w' hb => r_subN rfl rfl ?_ ?_) ?_; (first | omega | (simp <;> omega)); (first | omega | (simp <;> omega)))) | (refine gq_b_lss ?_; refine q_val rfl (fun w' hb => r_lss rfl rfl) ?_) | (refine gq_b_gtr ?_; refine q_val rfl (fun w' hb => r_gtr rfl rfl) ?_) | (refine gq_indexAddr ?_; (refine q_val rfl (fun w' hb => r_indexAddr ((S.grow hb).rdRow (D := (fInt .i64)) (i := 0) rfl) rfl rfl ?_ ?_) ?_; (first | omega | (simp <;> omega)); (first | omega | (simp <;> omega)))) | (refine gq_load ?_; (refine q_val rfl (fun w' hb => r_loadElem1 ((S.grow hb).rdRow (D := (fInt .i64)) (i := 0) rfl) rfl ?_ ?_ rfl) ?_; (first | omega | (simp <;> omega)); (first | omega | (simp <;> omega)))) | (refine gq_callV ?_; refine q_callV rfl (fun w' hb => r_call2 rfl rfl rfl) (fun w' hb => (hC.at (S.grow hb) (by rw [e1]; exact b1) (by rw [e2]; exact b2))) ?_) | (refine ql_split rfl rfl (fun h => ?_) (fun h => ?_) <;> (fail_if_success (have hh : true = true := h)) <;> (fail_if_success (have hh : false = false := h)) <;> (try simp only [decide_eq_true_eq, decide_eq_false_iff_not, Bool.not_eq_true', Bool.not_eq_false', Int.not_lt, Int.not_le] at h) <;> (try (exfalso; omega)) <;> (try (exfalso; rw [e1, e2] at h; omega; done))) | (refine WP_cond rfl (fun h => ?_) (fun h => ?_) <;> (fail_if_success (have hh : true = true := h)) <;> (fail_if_success (have hh : false = false := h)) <;> (try simp only [decide_eq_true_eq, decide_eq_false_iff_not, Bool.not_eq_true', Bool.not_eq_false', Int.not_lt, Int.not_le] at h) <;> (try (exfalso; omega)) <;> (try (exfalso; rw [e1, e2] at h; omega; done))))
        refine ⟨⟨_, ?_, i + 1, _, _, ⟨rfl, rfl, rfl, rfl, rfl, trivial⟩, S, by omega, by omega, by omega, ins_step hsw hai hg (fun k p q => hasc k i p q hi) haj hji (fun _ => by exact decide_eq_false hc) hall, rfl⟩⟩
        omega
    · repeat' (first | refine WP_seq ?_ | refine WP_region ?_ | refine wl_nil ?_ | refine then_normal ?_ | refine inB_normal ?_ | refine then_exit ?_ | refine inB_here ?_ | refine WP_exit ?_ | refine WP_condF rfl ?_ | refine WP_draw (by kernel_rfl) (by kernel_rfl) ?_ | (refine ql_nil ?_; intro w hb; replace S := S.grow hb; clear hb) | (refine g_move ?_; refine st_move rfl ?_) | (refine g_assign ?_; refine st_assign rfl ?_) | (refine g_b_add ?_; (refine st_val rfl (r_addN rfl rfl ?_ ?_) ?_; (first | omega | (simp <;> omega)); (first | omega | (simp <;> omega)))) | (refine gq_guard ?_; refine q_off rfl ?_) | (refine gq_move ?_; refine q_move rfl ?_) | (refine gq_pick ?_; refine q_pickF rfl rfl ?_) | (refine gq_b_gtr ?_; refine q_val rfl (fun w' hb => r_gtr rfl rfl) ?_) | (refine ql_split rfl rfl (fun h => ?_) (fun h => ?_) <;> (fail_if_success (have hh : true = true := h)) <;> (fail_if_success (have hh : false = false := h)) <;> (try simp only [decide_eq_true_eq, decide_eq_false_iff_not, Bool.not_eq_true', Bool.not_eq_false', Int.not_lt, Int.not_le] at h) <;> (try (exfalso; omega))))
      refine ⟨⟨_, ?_, i + 1, _, _, ⟨rfl, rfl, rfl, rfl, rfl, trivial⟩, S, by omega, by omega, by omega, ins_step hsw hai hg (fun k p q => hasc k i p q hi) haj hji (fun h => absurd h haj') hall, rfl⟩⟩
      omega
  · repeat' (first | refine WP_seq ?_ | refine WP_region ?_ | refine wl_nil ?_ | refine then_normal ?_ | (refine g_move ?_; refine st_move rfl ?_) | (refine g_b_lss ?_; refine st_val rfl (r_lss rfl rfl) ?_))
    refine WP_cond rfl (fun h => absurd (of_decide_eq_true h) (by omega)) (fun h => ?_)
    refine WP_exit ?_
    refine then_exit ?_
    refine then_exit ?_
    refine inB_here ?_
    have e : i = b := by omega
    subst e
    exact end0 rfl ⟨_, rfl, g, hg, S⟩


theorem stableG_run {cf : Int → Int → Int} {kc : Nat} [Enters Tryd.prog kc] {cc : List Value} {v : Value} {N : Nat} {x : Int} {ex : List Ob} {w0 w : World} (hC : CmpAt w0 kc cc cf N v N ex) (hsw : SW (fun x y => decide (cf x y < 0))) (S : St w0 w (rowT v idf N :: ex)) (hx : x = N) (h0 : 0 < N) (hN : N < 20) :
    CallsW Tryd.prog 90 #[v, .int .i64 x, cvG kc cc] w (fun _ w' => ∃ g, (tab g N).Perm (tab idf N) ∧ (tab g N).Pairwise (RS (fun x y => decide (cf x y < 0))) ∧ St w0 w' (rowT v g N :: ex)) := by
  subst hx
  refine CallsW.mk ?_
  refine calls_enter Tryd.func90 rfl (by intro _ h; first | exact nomatch h.1 | (obtain ⟨_, h, _⟩ := h; exact nomatch h)) Tryd.ntmps90 rfl ?_
  repeat' (first | refine WP_seq ?_ | refine WP_region ?_ | refine wl_nil ?_ | refine then_normal ?_ | refine WP_block ?_ | (refine g_move ?_; refine st_move rfl ?_) | (refine g_assign ?_; refine st_assign rfl ?_))
  refine WP_loop (fun k σ w1 => Has σ [(0, v), (1, .int .i64 (N : Int)), (2, cvG kc cc), (6, .int .i64 20), (7, .int .i64 0), (8, .int .i64 20)] ∧ St w0 w1 (rowT v idf N :: ex)) 0 ⟨⟨rfl, rfl, rfl, rfl, rfl, rfl, trivial⟩, S⟩ ?_
  clear S
  rintro k σ w1 ⟨hs, S⟩
  refine WP_has hs ?_
  repeat' (first | refine WP_seq ?_ | refine WP_region ?_ | refine wl_nil ?_ | refine then_normal ?_ | (refine g_move ?_; refine st_move rfl ?_) | (refine g_b_leq ?_; refine st_val rfl (r_leq rfl rfl) ?_))
  refine WP_cond rfl (fun h => absurd (of_decide_eq_true h) (by omega)) (fun h => ?_)
  refine WP_exit ?_
  refine then_exit ?_
  refine then_exit ?_
  refine inB_here ?_
  refine then_normal ?_
  repeat' (first | refine WP_seq ?_ | refine WP_region ?_ | (refine g_move ?_; refine st_move rfl ?_))
  refine st_callW rfl (r_call4 rfl rfl rfl rfl rfl) (insG_run (a := 0) (b := N) hC hsw S (by omega) (by omega) h0 (Nat.le_refl _) (by omega) (fun k hk => by simp only [idf]; omega) (fun k k' p q r => by simp only [idf]; omega)) ?_
  rintro u w ⟨g', hg, S'⟩
  replace S := S'; clear S'
  repeat' (first | refine wl_nil ?_ | refine then_normal ?_ | refine WP_block ?_)
  refine WP_loop (fun k σ w1 => Has σ [(0, v), (1, .int .i64 (N : Int)), (2, cvG kc cc), (6, .int .i64 20)] ∧ St w0 w1 (rowT v g' N :: ex)) 0 ⟨⟨rfl, rfl, rfl, rfl, trivial⟩, S⟩ ?_
  clear S hs
  rintro k σ w1 ⟨hs, S⟩
  refine WP_has hs ?_
  repeat' (first | refine WP_seq ?_ | refine WP_region ?_ | refine wl_nil ?_ | refine then_normal ?_ | (refine g_move ?_; refine st_move rfl ?_) | (refine g_b_lss ?_; refine st_val rfl (r_lss rfl rfl) ?_))
  refine WP_cond rfl (fun h => absurd (of_decide_eq_true h) (by omega)) (fun h => ?_)
  refine WP_exit ?_
  refine then_exit ?_
  refine then_exit ?_
  refine inB_here ?_
  refine end0 rfl ⟨_, rfl, g', ?_, ?_, S⟩
  · rw [← seg_tab, ← seg_tab]; exact hg.perm
  · rw [← seg_tab]; exact hg.pw

theorem sortG_run {cf : Int → Int → Int} {kc : Nat} [Enters Tryd.prog kc] {cc : List Value} {v : Value} {N : Nat} {ex : List Ob} {w0 w : World} (hC : CmpAt w0 kc cc cf N v N ex) (hsw : SW (fun x y => decide (cf x y < 0))) (S : St w0 w (rowT v idf N :: ex)) (h0 : 0 < N) (hN : N < 20) :
    CallsW Tryd.prog 62 #[v, cvG kc cc] w (fun _ w' => St w0 w' (rowOb (fInt .i64) 3 v (ordG (fun x y => decide (cf x y < 0)) N) :: ex)) := by
  refine CallsW.mk ?_
  have hl := @tab_len idf N
  obtain ⟨A, c, hz⟩ := (S.rdRow (D := fInt .i64) (i := 0) rfl).len; subst hz
  refine calls_enter Tryd.func62 rfl (by intro _ h; first | exact nomatch h.1 | (obtain ⟨_, h, _⟩ := h; exact nomatch h)) Tryd.ntmps62 rfl ?_
  repeat' (first | refine WP_region ?_ | (refine g_move ?_; refine st_move rfl ?_) | (refine g_c_len ?_; refine st_val rfl (r_lenSlice rfl) ?_))
  refine st_callW rfl (r_call3 rfl rfl rfl rfl) (stableG_run (N := N) (x := ((tab idf N).length : Int)) hC hsw S (by omega) h0 hN) ?_
  rintro u w ⟨g, hp, hw, S'⟩
  replace S : St w0 w (rowOb (fInt .i64) 3 (.slice A (tab idf N).length c) (tab g N) :: ex) := S'
  rw [ordG_uniq hsw hp hw] at S
  refine wl_nil ?_
  exact end0 rfl ⟨_, rfl, S⟩
end Go.Proofs.YtijnbpnficcpmaaDoor
/- Verdicts that are valid; numbers within bounds; lists that are equal. -/
namespace Go.Proofs.YtijnbpnficcpmaaDoor
open Go Go.Gx Go.RowKit
set_option linter.unusedVariables false
set_option linter.unusedSimpArgs false

theorem wi_is {n lo hi : Int} {b : Bool} {w : World} (hE : inR n lo hi = b) : CallsV Tryd.prog 47 #[.int .i64 n, .int .i64 lo, .int .i64 hi] w (.bool b) := by
  have S := St.start w
  refine CallsV.mk ?_
  refine calls_enter Tryd.func47 rfl (by intro _ h; first | exact nomatch h.1 | (obtain ⟨_, h, _⟩ := h; exact nomatch h)) Tryd.ntmps47 rfl ?_
  repeat' (first | refine WP_seq ?_ | refine WP_region ?_ | refine wl_nil ?_ | refine then_normal ?_ | refine WP_ret ?_ | (refine g_guard ?_; refine st_off rfl ?_) | (refine g_move ?_; refine st_move rfl ?_) | (refine g_assign ?_; refine st_assign rfl ?_) | (refine g_pick ?_; first | refine st_pickT rfl rfl ?_ | refine st_pickF rfl rfl ?_) | (refine g_b_leq ?_; refine st_val rfl (r_leq rfl rfl) ?_) | (refine wl_split rfl rfl (fun h => ?_) (fun h => ?_) <;> (fail_if_success (have hh : true = true := h)) <;> (fail_if_success (have hh : false = false := h)) <;> (try simp only [decide_eq_true_eq, decide_eq_false_iff_not, Bool.not_eq_true', Bool.not_eq_false', Int.not_lt, Int.not_le] at h) <;> (try (exfalso; omega))))
  all_goals (refine end1 rfl rfl ⟨rb ?_, S.below⟩; subst hE; simp [inR]; try omega)
theorem wi_spec {n lo hi : Int} {w : World} : CallsV Tryd.prog 47 #[.int .i64 n, .int .i64 lo, .int .i64 hi] w (.bool (inR n lo hi)) := wi_is rfl
def badV (x : GVerdict) : Bool := decide (¬ (1 ≤ x.Kind ∧ x.Kind ≤ 4 ∧ 0 ≤ x.Item ∧ x.Item ≤ 199 ∧ (x.Kind ≠ 1 → x.Item = 0)))
def validV (l : List GVerdict) : Bool := decide (l.length ≤ 200) && !l.any badV
theorem badV_spec {x : GVerdict} {w : World} : CallsV Tryd.prog 61 #[.agg x.enc.toArray] w (.bool (badV x)) := by
  have S := St.start w
  refine CallsV.mk ?_
  refine calls_enter Tryd.func61 rfl (by intro _ h; first | exact nomatch h.1 | (obtain ⟨_, h, _⟩ := h; exact nomatch h)) Tryd.ntmps61 rfl ?_
  repeat' (first | refine WP_seq ?_ | refine WP_region ?_ | refine wl_nil ?_ | refine then_normal ?_ | refine then_ret ?_ | refine WP_ret ?_ | refine WP_skip ?_ | (refine g_guard ?_; refine st_off rfl ?_) | (refine g_move ?_; refine st_move rfl ?_) | (refine g_assign ?_; refine st_assign rfl ?_) | (refine g_pick ?_; first | refine st_pickT rfl rfl ?_ | refine st_pickF rfl rfl ?_) | (refine g_b_eql ?_; refine st_val rfl (r_eql rfl rfl) ?_) | (refine g_b_neq ?_; refine st_val rfl (r_neq rfl rfl) ?_) | (refine g_un ?_; refine st_val rfl (r_not rfl) ?_) | (refine g_fieldAddr ?_; refine st_val rfl (r_fieldAddrL rfl) ?_) | (refine g_load ?_; refine st_val rfl (r_loadVar (i := 0) S rfl rfl rfl) ?_) | (refine g_callV ?_; (refine st_callV rfl (r_call3 rfl rfl rfl rfl) (wi_spec) ?_; intro w hb; replace S := S.grow hb; clear hb)) | (refine g_box ?_; refine st_valE rfl (r_box S rfl) ?_; rintro _ w ⟨b, rfl, -, S'⟩; replace S := S'; clear S') | (refine wl_split rfl rfl (fun h => ?_) (fun h => ?_) <;> (fail_if_success (have hh : true = true := h)) <;> (fail_if_success (have hh : false = false := h)) <;> (try simp only [decide_eq_true_eq, decide_eq_false_iff_not, Bool.not_eq_true', Bool.not_eq_false', Int.not_lt, Int.not_le] at h) <;> (try (exfalso; omega))) | (refine WP_cond rfl (fun h => ?_) (fun h => ?_) <;> (fail_if_success (have hh : true = true := h)) <;> (fail_if_success (have hh : false = false := h)) <;> (try simp only [decide_eq_true_eq, decide_eq_false_iff_not, Bool.not_eq_true', Bool.not_eq_false', Int.not_lt, Int.not_le] at h) <;> (try (exfalso; omega))))
  all_goals
    refine end1 rfl rfl ⟨rb ?_, S.below⟩
    simp only [inR, decide_eq_true_eq, decide_eq_false_iff_not, Bool.not_eq_true', Bool.not_eq_false'] at *
    symm
    unfold badV
  all_goals first
    | (rw [decide_eq_false_iff_not]; omega)
    | (rw [decide_eq_true_iff]; omega)
    | (rw [← decide_not, decide_eq_decide]; omega)
    | (rw [decide_eq_decide]; omega)
theorem indexFuncV_spec {g : FuncId} [Enters Tryd.prog g] {cl : List Value} {p : GVerdict → Bool} {v : Value} {l : List GVerdict} {w : World} (hr : Rd fGVerdict.ty w v l) (hl : l.length ≤ 1000000000)
    (hp : ∀ x w', Below w.heap.size w w' → CallsV Tryd.prog g (.agg (GVerdict.enc x).toArray :: cl).toArray w' (.bool (p x))) :
    CallsV Tryd.prog 89 #[v, .func (.func g) #[] cl.toArray] w (.int .i64 (idxF p l)) := by
  have S := St.start w
  obtain ⟨A, c, rfl⟩ := hr.len
  refine CallsV.mk ?_
  refine calls_enter Tryd.func89 rfl (by intro _ h; first | exact nomatch h.1 | (obtain ⟨_, h, _⟩ := h; exact nomatch h)) Tryd.ntmps89 rfl ?_
  repeat' (first | refine WP_seq ?_ | refine WP_region ?_ | refine wl_nil ?_ | refine then_normal ?_ | refine WP_block ?_ | (refine g_move ?_; refine st_move rfl ?_) | (refine g_assign ?_; refine st_assign rfl ?_) | (refine g_c_len ?_; refine st_val rfl (r_lenSlice rfl) ?_))
  refine WP_loop (fun k σ w1 => ∃ i : Int, Has σ [(0, .slice A l.length c), (1, .func (.func g) #[] cl.toArray), (7, .int .i64 l.length), (8, .int .i64 i)] ∧ St w w1 [] ∧ 0 ≤ i ∧ i ≤ l.length ∧ k = l.length - i.toNat ∧ ∀ j, j < i.toNat → ∀ x, l[j]? = some x → p x = false) l.length ⟨0, ⟨rfl, rfl, rfl, rfl, trivial⟩, S, by omega, by omega, by omega, fun j hj => by omega⟩ ?_
  rintro k σ w1 ⟨i, hs, S, hi0, hi1, rfl, hnone⟩
  refine WP_has hs ?_
  repeat' (first | refine WP_seq ?_ | refine WP_region ?_ | refine wl_nil ?_ | refine then_normal ?_ | refine inB_normal ?_ | refine then_exit ?_ | refine inB_here ?_ | refine then_ret ?_ | refine inB_ret ?_ | refine WP_ret ?_ | refine WP_skip ?_ | refine WP_exit ?_ | refine WP_block ?_ | (refine g_move ?_; refine st_move rfl ?_) | (refine g_assign ?_; refine st_assign rfl ?_) | (refine g_b_add ?_; (refine st_val rfl (r_addN rfl rfl ?_ ?_) ?_; (first | omega | (simp <;> omega)); (first | omega | (simp <;> omega)))) | (refine g_b_lss ?_; refine st_val rfl (r_lss rfl rfl) ?_) | (refine g_indexAddr ?_; (refine st_val rfl (r_indexAddr (hr.mono S.below) rfl rfl ?_ ?_) ?_; (first | omega | (simp <;> omega)); (first | omega | (simp <;> omega)))) | (refine g_load ?_; (refine st_val rfl (r_loadElem (hr.mono S.below) rfl ?_ ?_) ?_; (first | omega | (simp <;> omega)); (first | omega | (simp <;> omega)))) | (refine g_callV ?_; (refine st_callV rfl (r_call1 rfl rfl) ((hp _ _ S.below)) ?_; intro w hb; replace S := S.grow hb; clear hb)) | (refine WP_cond rfl (fun h => ?_) (fun h => ?_) <;> (fail_if_success (have hh : true = true := h)) <;> (fail_if_success (have hh : false = false := h)) <;> (try simp only [decide_eq_true_eq, decide_eq_false_iff_not, Bool.not_eq_true', Bool.not_eq_false', Int.not_lt, Int.not_le] at h) <;> (try (exfalso; omega))))
  · refine end1 rfl rfl ⟨ri ?_, S.below⟩
    exact (idxF_hit hnone (nth_get (by omega) (by omega)) h (by omega)).symm
  · refine ⟨⟨_, ?_, i + 1, ⟨rfl, rfl, rfl, rfl, trivial⟩, S, by omega, by omega, rfl, fun j hj x hx => ?_⟩⟩
    · omega
    · by_cases e : j = i.toNat
      · subst e; rw [nth_get (by omega) (by omega)] at hx; cases hx; exact h
      · exact hnone j (by omega) x hx
  · refine end1 rfl rfl ⟨ri ?_, S.below⟩
    exact (idxF_none fun x hx => by
      obtain ⟨j, hj⟩ := List.getElem?_of_mem hx
      exact hnone j (by have := List.getElem?_eq_some_iff.1 hj; obtain ⟨hlt, _⟩ := this; omega) x hj).symm

theorem containsFuncV_spec {g : FuncId} [Enters Tryd.prog g] {cl : List Value} {p : GVerdict → Bool} {v : Value} {l : List GVerdict} {w : World} (hr : Rd fGVerdict.ty w v l) (hl : l.length ≤ 1000000000)
    (hp : ∀ x w', Below w.heap.size w w' → CallsV Tryd.prog g (.agg (GVerdict.enc x).toArray :: cl).toArray w' (.bool (p x))) :
    CallsV Tryd.prog 60 #[v, .func (.func g) #[] cl.toArray] w (.bool (l.any p)) := by
  have S := St.start w
  refine CallsV.mk ?_
  refine calls_enter Tryd.func60 rfl (by intro _ h; first | exact nomatch h.1 | (obtain ⟨_, h, _⟩ := h; exact nomatch h)) Tryd.ntmps60 rfl ?_
  repeat' (first | refine WP_seq ?_ | refine WP_region ?_ | refine wl_nil ?_ | refine then_normal ?_ | refine WP_ret ?_ | (refine g_move ?_; refine st_move rfl ?_) | (refine g_assign ?_; refine st_assign rfl ?_) | (refine g_b_geq ?_; refine st_val rfl (r_geq rfl rfl) ?_) | (refine g_callV ?_; (refine st_callV rfl (r_call2 rfl rfl rfl) (indexFuncV_spec (hr.mono S.below) hl (fun x w' hb => hp x w' (S.below.trans (hb.mono S.below.size)))) ?_; intro w hb; replace S := S.grow hb; clear hb)))
  all_goals (refine end1 rfl rfl ⟨rb ?_, S.below⟩; rw [idxF_any])


theorem validV_spec {v : Value} {l : List GVerdict} {w : World} (hr : Rd fGVerdict.ty w v l) (hl : l.length ≤ 1000000000) : CallsV Tryd.prog 25 #[v] w (.bool (validV l)) := by
  have S := St.start w
  obtain ⟨A, c, rfl⟩ := hr.len
  refine CallsV.mk ?_
  refine calls_enter Tryd.func25 rfl (by intro _ h; first | exact nomatch h.1 | (obtain ⟨_, h, _⟩ := h; exact nomatch h)) Tryd.ntmps25 rfl ?_
  repeat' (first | refine WP_seq ?_ | refine WP_region ?_ | refine wl_nil ?_ | refine then_normal ?_ | refine WP_ret ?_ | (refine g_guard ?_; refine st_off rfl ?_) | (refine g_move ?_; refine st_move rfl ?_) | (refine g_assign ?_; refine st_assign rfl ?_) | (refine g_pick ?_; first | refine st_pickT rfl rfl ?_ | refine st_pickF rfl rfl ?_) | (refine g_b_leq ?_; refine st_val rfl (r_leq rfl rfl) ?_) | (refine g_un ?_; refine st_val rfl (r_not rfl) ?_) | (refine g_c_len ?_; refine st_val rfl (r_lenSlice rfl) ?_) | (refine g_callV ?_; (refine st_callV rfl (r_call2 rfl rfl rfl) (containsFuncV_spec (hr.mono S.below) hl (fun x w' _ => badV_spec)) ?_; intro w hb; replace S := S.grow hb; clear hb)) | (refine wl_split rfl rfl (fun h => ?_) (fun h => ?_) <;> (fail_if_success (have hh : true = true := h)) <;> (fail_if_success (have hh : false = false := h)) <;> (try simp only [decide_eq_true_eq, decide_eq_false_iff_not, Bool.not_eq_true', Bool.not_eq_false', Int.not_lt, Int.not_le] at h) <;> (try (exfalso; omega))))
  all_goals
    refine end1 rfl rfl ⟨rb ?_, S.below⟩
    unfold validV
  all_goals first
    | (rw [decide_eq_true (by omega)]; rfl)
    | (rw [decide_eq_false (by omega)]; rfl)
theorem ext_nth {α : Type} [Inhabited α] {l m : List α} (hl : l.length = m.length) (h : ∀ j : Int, 0 ≤ j → j < l.length → nth l j = nth m j) : l = m := by
  apply List.ext_getElem? 
  intro j
  by_cases hj : j < l.length
  · have h1 := nth_get (l := l) (i := j) (by omega) (by omega)
    have h2 := nth_get (l := m) (i := j) (by omega) (by omega)
    simp only [Int.toNat_natCast] at h1 h2
    rw [h1, h2, h j (by omega) (by omega)]
  · rw [List.getElem?_eq_none (by omega), List.getElem?_eq_none (by omega)]
theorem same_spec {v v2 : Value} {l m : List GSpot} {w : World} (hr : Rd fGSpot.ty w v l) (hr2 : Rd fGSpot.ty w v2 m) (hl : l.length ≤ 1000000000) (hm : m.length ≤ 1000000000) :
    CallsV Tryd.prog 20 #[v, v2] w (.bool (decide (l = m))) := by
  have S := St.start w
  obtain ⟨A, c, rfl⟩ := hr.len
  obtain ⟨A2, c2, rfl⟩ := hr2.len
  refine CallsV.mk ?_
  refine calls_enter Tryd.func20 rfl (by intro _ h; first | exact nomatch h.1 | (obtain ⟨_, h, _⟩ := h; exact nomatch h)) Tryd.ntmps20 rfl ?_
  repeat' (first | refine WP_seq ?_ | refine WP_region ?_ | refine wl_nil ?_ | refine then_normal ?_ | refine then_ret ?_ | refine WP_ret ?_ | refine WP_skip ?_ | refine WP_block ?_ | (refine g_move ?_; refine st_move rfl ?_) | (refine g_assign ?_; refine st_assign rfl ?_) | (refine g_b_neq ?_; refine st_val rfl (r_neq rfl rfl) ?_) | (refine g_c_len ?_; refine st_val rfl (r_lenSlice rfl) ?_) | (refine WP_cond rfl (fun h => ?_) (fun h => ?_) <;> (fail_if_success (have hh : true = true := h)) <;> (fail_if_success (have hh : false = false := h)) <;> (try simp only [decide_eq_true_eq, decide_eq_false_iff_not, Bool.not_eq_true', Bool.not_eq_false', Int.not_lt, Int.not_le] at h) <;> (try (exfalso; omega))))
  · exact end1 rfl rfl ⟨rb (by rw [decide_eq_false]; rintro rfl; omega), S.below⟩
  refine WP_loop (fun k σ w1 => ∃ i : Int, Has σ [(0, .slice A l.length c), (1, .slice A2 m.length c2), (5, .int .i64 i)] ∧ St w w1 [] ∧ 0 ≤ i ∧ i ≤ l.length ∧ k = l.length - i.toNat ∧ ∀ j : Int, 0 ≤ j → j < i → nth l j = nth m j) l.length ⟨0, ⟨rfl, rfl, rfl, trivial⟩, S, by omega, by omega, by omega, fun j h0 h1 => by omega⟩ ?_
  rintro k σ w1 ⟨i, hs, S, hi0, hi1, rfl, hall⟩
  refine WP_has hs ?_
  repeat' (first | refine WP_seq ?_ | refine WP_region ?_ | refine wl_nil ?_ | refine then_normal ?_ | refine inB_normal ?_ | refine then_exit ?_ | refine inB_here ?_ | refine then_ret ?_ | refine inB_ret ?_ | refine WP_ret ?_ | refine WP_skip ?_ | refine WP_exit ?_ | refine WP_block ?_ | refine WP_draw (by kernel_rfl) (by kernel_rfl) ?_ | (refine ql_nil ?_; intro w hb; replace S := S.grow hb; clear hb) | (refine g_move ?_; refine st_move rfl ?_) | (refine g_assign ?_; refine st_assign rfl ?_) | (refine g_b_add ?_; (refine st_val rfl (r_addN rfl rfl ?_ ?_) ?_; (first | omega | (simp <;> omega)); (first | omega | (simp <;> omega)))) | (refine g_b_lss ?_; refine st_val rfl (r_lss rfl rfl) ?_) | (refine g_c_len ?_; refine st_val rfl (r_lenSlice rfl) ?_) | (refine gq_move ?_; refine q_move rfl ?_) | (refine gq_b_neq ?_; refine q_val rfl (fun w' hb => neq63 rfl rfl) ?_) | (refine gq_indexAddr ?_; first | (refine q_val rfl (fun w' hb => r_indexAddr (hr.mono (S.grow hb).below) rfl rfl ?_ ?_) ?_; (first | omega | (simp <;> omega)); (first | omega | (simp <;> omega))) | (refine q_val rfl (fun w' hb => r_indexAddr (hr2.mono (S.grow hb).below) rfl rfl ?_ ?_) ?_; (first | omega | (simp <;> omega)); (first | omega | (simp <;> omega)))) | (refine gq_load ?_; first | (refine q_val rfl (fun w' hb => r_loadElem (hr.mono (S.grow hb).below) rfl ?_ ?_) ?_; (first | omega | (simp <;> omega)); (first | omega | (simp <;> omega))) | (refine q_val rfl (fun w' hb => r_loadElem (hr2.mono (S.grow hb).below) rfl ?_ ?_) ?_; (first | omega | (simp <;> omega)); (first | omega | (simp <;> omega)))) | (refine WP_cond rfl (fun h => ?_) (fun h => ?_) <;> (fail_if_success (have hh : true = true := h)) <;> (fail_if_success (have hh : false = false := h)) <;> (try simp only [decide_eq_true_eq, decide_eq_false_iff_not, Bool.not_eq_true', Bool.not_eq_false', Int.not_lt, Int.not_le] at h) <;> (try (exfalso; omega))))
  · refine end1 rfl rfl ⟨rb ?_, S.below⟩
    symm; rw [decide_eq_false_iff_not]; rintro rfl
    simp at h
  · refine ⟨⟨_, ?_, i + 1, ⟨rfl, rfl, rfl, trivial⟩, S, by omega, by omega, rfl, fun j h0 h1 => ?_⟩⟩
    · omega
    · by_cases e : j = i
      · subst e; first | exact h | exact of_decide_eq_true h
      · exact hall j h0 (by omega)
  · refine end1 rfl rfl ⟨rb ?_, S.below⟩
    symm; rw [decide_eq_true_iff]
    exact ext_nth (by omega) fun j h0 h1 => hall j h0 (by omega)

theorem same_is {v v2 : Value} {l m : List GSpot} {b : Bool} {w : World} (h : decide (l = m) = b) (hr : Rd fGSpot.ty w v l) (hr2 : Rd fGSpot.ty w v2 m) (hl : l.length ≤ 1000000000) (hm : m.length ≤ 1000000000) : CallsV Tryd.prog 20 #[v, v2] w (.bool b) := by
  rw [← h]; exact same_spec hr hr2 hl hm
theorem sameP_spec {v v2 : Value} {l m : List GPosting} {w : World} (hr : Rd fGPosting.ty w v l) (hr2 : Rd fGPosting.ty w v2 m) (hl : l.length ≤ 1000000000) (hm : m.length ≤ 1000000000) :
    CallsV Tryd.prog 37 #[v, v2] w (.bool (decide (l = m))) := by
  have S := St.start w
  obtain ⟨A, c, rfl⟩ := hr.len
  obtain ⟨A2, c2, rfl⟩ := hr2.len
  refine CallsV.mk ?_
  refine calls_enter Tryd.func37 rfl (by intro _ h; first | exact nomatch h.1 | (obtain ⟨_, h, _⟩ := h; exact nomatch h)) Tryd.ntmps37 rfl ?_
  repeat' (first | refine WP_seq ?_ | refine WP_region ?_ | refine wl_nil ?_ | refine then_normal ?_ | refine then_ret ?_ | refine WP_ret ?_ | refine WP_skip ?_ | refine WP_block ?_ | (refine g_move ?_; refine st_move rfl ?_) | (refine g_assign ?_; refine st_assign rfl ?_) | (refine g_b_neq ?_; refine st_val rfl (r_neq rfl rfl) ?_) | (refine g_c_len ?_; refine st_val rfl (r_lenSlice rfl) ?_) | (refine WP_cond rfl (fun h => ?_) (fun h => ?_) <;> (fail_if_success (have hh : true = true := h)) <;> (fail_if_success (have hh : false = false := h)) <;> (try simp only [decide_eq_true_eq, decide_eq_false_iff_not, Bool.not_eq_true', Bool.not_eq_false', Int.not_lt, Int.not_le] at h) <;> (try (exfalso; omega))))
  · exact end1 rfl rfl ⟨rb (by rw [decide_eq_false]; rintro rfl; omega), S.below⟩
  refine WP_loop (fun k σ w1 => ∃ i : Int, Has σ [(0, .slice A l.length c), (1, .slice A2 m.length c2), (5, .int .i64 i)] ∧ St w w1 [] ∧ 0 ≤ i ∧ i ≤ l.length ∧ k = l.length - i.toNat ∧ ∀ j : Int, 0 ≤ j → j < i → nth l j = nth m j) l.length ⟨0, ⟨rfl, rfl, rfl, trivial⟩, S, by omega, by omega, by omega, fun j h0 h1 => by omega⟩ ?_
  rintro k σ w1 ⟨i, hs, S, hi0, hi1, rfl, hall⟩
  refine WP_has hs ?_
  repeat' (first | refine WP_seq ?_ | refine WP_region ?_ | refine wl_nil ?_ | refine then_normal ?_ | refine inB_normal ?_ | refine then_exit ?_ | refine inB_here ?_ | refine then_ret ?_ | refine inB_ret ?_ | refine WP_ret ?_ | refine WP_skip ?_ | refine WP_exit ?_ | refine WP_block ?_ | refine WP_draw (by kernel_rfl) (by kernel_rfl) ?_ | (refine ql_nil ?_; intro w hb; replace S := S.grow hb; clear hb) | (refine g_move ?_; refine st_move rfl ?_) | (refine g_assign ?_; refine st_assign rfl ?_) | (refine g_b_add ?_; (refine st_val rfl (r_addN rfl rfl ?_ ?_) ?_; (first | omega | (simp <;> omega)); (first | omega | (simp <;> omega)))) | (refine g_b_lss ?_; refine st_val rfl (r_lss rfl rfl) ?_) | (refine g_c_len ?_; refine st_val rfl (r_lenSlice rfl) ?_) | (refine gq_move ?_; refine q_move rfl ?_) | (refine gq_b_neq ?_; refine q_val rfl (fun w' hb => neq84 rfl rfl) ?_) | (refine gq_indexAddr ?_; first | (refine q_val rfl (fun w' hb => r_indexAddr (hr.mono (S.grow hb).below) rfl rfl ?_ ?_) ?_; (first | omega | (simp <;> omega)); (first | omega | (simp <;> omega))) | (refine q_val rfl (fun w' hb => r_indexAddr (hr2.mono (S.grow hb).below) rfl rfl ?_ ?_) ?_; (first | omega | (simp <;> omega)); (first | omega | (simp <;> omega)))) | (refine gq_load ?_; first | (refine q_val rfl (fun w' hb => r_loadElem (hr.mono (S.grow hb).below) rfl ?_ ?_) ?_; (first | omega | (simp <;> omega)); (first | omega | (simp <;> omega))) | (refine q_val rfl (fun w' hb => r_loadElem (hr2.mono (S.grow hb).below) rfl ?_ ?_) ?_; (first | omega | (simp <;> omega)); (first | omega | (simp <;> omega)))) | (refine WP_cond rfl (fun h => ?_) (fun h => ?_) <;> (fail_if_success (have hh : true = true := h)) <;> (fail_if_success (have hh : false = false := h)) <;> (try simp only [decide_eq_true_eq, decide_eq_false_iff_not, Bool.not_eq_true', Bool.not_eq_false', Int.not_lt, Int.not_le] at h) <;> (try (exfalso; omega))))
  · refine end1 rfl rfl ⟨rb ?_, S.below⟩
    symm; rw [decide_eq_false_iff_not]; rintro rfl
    simp at h
  · refine ⟨⟨_, ?_, i + 1, ⟨rfl, rfl, rfl, trivial⟩, S, by omega, by omega, rfl, fun j h0 h1 => ?_⟩⟩
    · omega
    · by_cases e : j = i
      · subst e; first | exact h | exact of_decide_eq_true h
      · exact hall j h0 (by omega)
  · refine end1 rfl rfl ⟨rb ?_, S.below⟩
    symm; rw [decide_eq_true_iff]
    exact ext_nth (by omega) fun j h0 h1 => hall j h0 (by omega)

theorem ints_spec {v v2 : Value} {l m : List Int} {w : World} (hr : Rd (fInt .i64).ty w v l) (hr2 : Rd (fInt .i64).ty w v2 m) (hl : l.length ≤ 1000000000) (hm : m.length ≤ 1000000000) :
    CallsV Tryd.prog 21 #[v, v2] w (.bool (decide (l = m))) := by
  have S := St.start w
  obtain ⟨A, c, rfl⟩ := hr.len
  obtain ⟨A2, c2, rfl⟩ := hr2.len
  refine CallsV.mk ?_
  refine calls_enter Tryd.func21 rfl (by intro _ h; first | exact nomatch h.1 | (obtain ⟨_, h, _⟩ := h; exact nomatch h)) Tryd.ntmps21 rfl ?_
  repeat' (first | refine WP_seq ?_ | refine WP_region ?_ | refine wl_nil ?_ | refine then_normal ?_ | refine then_ret ?_ | refine WP_ret ?_ | refine WP_skip ?_ | refine WP_block ?_ | (refine g_move ?_; refine st_move rfl ?_) | (refine g_assign ?_; refine st_assign rfl ?_) | (refine g_b_neq ?_; refine st_val rfl (r_neq rfl rfl) ?_) | (refine g_c_len ?_; refine st_val rfl (r_lenSlice rfl) ?_) | (refine WP_cond rfl (fun h => ?_) (fun h => ?_) <;> (fail_if_success (have hh : true = true := h)) <;> (fail_if_success (have hh : false = false := h)) <;> (try simp only [decide_eq_true_eq, decide_eq_false_iff_not, Bool.not_eq_true', Bool.not_eq_false', Int.not_lt, Int.not_le] at h) <;> (try (exfalso; omega))))
  · exact end1 rfl rfl ⟨rb (by rw [decide_eq_false]; rintro rfl; omega), S.below⟩
  refine WP_loop (fun k σ w1 => ∃ i : Int, Has σ [(0, .slice A l.length c), (1, .slice A2 m.length c2), (5, .int .i64 i)] ∧ St w w1 [] ∧ 0 ≤ i ∧ i ≤ l.length ∧ k = l.length - i.toNat ∧ ∀ j : Int, 0 ≤ j → j < i → nth l j = nth m j) l.length ⟨0, ⟨rfl, rfl, rfl, trivial⟩, S, by omega, by omega, by omega, fun j h0 h1 => by omega⟩ ?_
  rintro k σ w1 ⟨i, hs, S, hi0, hi1, rfl, hall⟩
  refine WP_has hs ?_
  repeat' (first | refine WP_seq ?_ | refine WP_region ?_ | refine wl_nil ?_ | refine then_normal ?_ | refine inB_normal ?_ | refine then_exit ?_ | refine inB_here ?_ | refine then_ret ?_ | refine inB_ret ?_ | refine WP_ret ?_ | refine WP_skip ?_ | refine WP_exit ?_ | refine WP_block ?_ | refine WP_draw (by kernel_rfl) (by kernel_rfl) ?_ | (refine ql_nil ?_; intro w hb; replace S := S.grow hb; clear hb) | (refine g_move ?_; refine st_move rfl ?_) | (refine g_assign ?_; refine st_assign rfl ?_) | (refine g_b_add ?_; (refine st_val rfl (r_addN rfl rfl ?_ ?_) ?_; (first | omega | (simp <;> omega)); (first | omega | (simp <;> omega)))) | (refine g_b_lss ?_; refine st_val rfl (r_lss rfl rfl) ?_) | (refine g_c_len ?_; refine st_val rfl (r_lenSlice rfl) ?_) | (refine gq_move ?_; refine q_move rfl ?_) | (refine gq_b_neq ?_; refine q_val rfl (fun w' hb => r_neq rfl rfl) ?_) | (refine gq_indexAddr ?_; first | (refine q_val rfl (fun w' hb => r_indexAddr (hr.mono (S.grow hb).below) rfl rfl ?_ ?_) ?_; (first | omega | (simp <;> omega)); (first | omega | (simp <;> omega))) | (refine q_val rfl (fun w' hb => r_indexAddr (hr2.mono (S.grow hb).below) rfl rfl ?_ ?_) ?_; (first | omega | (simp <;> omega)); (first | omega | (simp <;> omega)))) | (refine gq_load ?_; first | (refine q_val rfl (fun w' hb => r_loadElem1 (hr.mono (S.grow hb).below) rfl ?_ ?_ rfl) ?_; (first | omega | (simp <;> omega)); (first | omega | (simp <;> omega))) | (refine q_val rfl (fun w' hb => r_loadElem1 (hr2.mono (S.grow hb).below) rfl ?_ ?_ rfl) ?_; (first | omega | (simp <;> omega)); (first | omega | (simp <;> omega)))) | (refine WP_cond rfl (fun h => ?_) (fun h => ?_) <;> (fail_if_success (have hh : true = true := h)) <;> (fail_if_success (have hh : false = false := h)) <;> (try simp only [decide_eq_true_eq, decide_eq_false_iff_not, Bool.not_eq_true', Bool.not_eq_false', Int.not_lt, Int.not_le] at h) <;> (try (exfalso; omega))))
  · refine end1 rfl rfl ⟨rb ?_, S.below⟩
    symm; rw [decide_eq_false_iff_not]; rintro rfl
    simp at h
  · refine ⟨⟨_, ?_, i + 1, ⟨rfl, rfl, rfl, trivial⟩, S, by omega, by omega, rfl, fun j h0 h1 => ?_⟩⟩
    · omega
    · by_cases e : j = i
      · subst e; first | exact h | exact of_decide_eq_true h | (simp at h; exact h)
      · exact hall j h0 (by omega)
  · refine end1 rfl rfl ⟨rb ?_, S.below⟩
    symm; rw [decide_eq_true_iff]
    exact ext_nth (by omega) fun j h0 h1 => hall j h0 (by omega)
theorem ints_is {v v2 : Value} {l m : List Int} {b : Bool} {w : World} (h : decide (l = m) = b) (hr : Rd (fInt .i64).ty w v l) (hr2 : Rd (fInt .i64).ty w v2 m) (hl : l.length ≤ 1000000000) (hm : m.length ≤ 1000000000) : CallsV Tryd.prog 21 #[v, v2] w (.bool b) := by
  rw [← h]; exact ints_spec hr hr2 hl hm
end Go.Proofs.YtijnbpnficcpmaaDoor
/- bill.Shares. -/
namespace Go.Proofs.YtijnbpnficcpmaaDoor
open Go Go.Gx Go.RowKit
set_option linter.unusedVariables false
set_option linter.unusedSimpArgs false

def okWs (w : List Int) : Bool := decide (w.length ≤ 16) && w.all fun x => inR x 0 1000000
def okSh (t : Int) (w : List Int) : Bool := okWs w && (decide (sumW w ≠ 0) && inR t 0 1000000000000)
def shI (t : Int) (w : List Int) : List Int × Int := if okSh t w then (shW t w, 0) else ([], 390)
theorem okWs_at {w : List Int} (h : okWs w = true) {i : Int} (h0 : 0 ≤ i) (hi : i < w.length) : 0 ≤ nth w i ∧ nth w i ≤ 1000000 := by
  unfold okWs at h
  rw [Bool.and_eq_true] at h
  have := List.all_eq_true.1 h.2 _ (nth_mem h0 hi)
  exact of_decide_eq_true this
theorem okWs_len {w : List Int} (h : okWs w = true) : w.length ≤ 16 := by
  unfold okWs at h
  rw [Bool.and_eq_true] at h
  exact of_decide_eq_true h.1
theorem okWs_of {w : List Int} (hl : w.length ≤ 16) (h : ∀ j : Int, 0 ≤ j → j < w.length → inR (nth w j) 0 1000000 = true) : okWs w = true := by
  unfold okWs
  rw [Bool.and_eq_true]
  refine ⟨decide_eq_true hl, List.all_eq_true.2 fun x hx => ?_⟩
  obtain ⟨j, hj⟩ := List.getElem?_of_mem hx
  have hlt := (List.getElem?_eq_some_iff.1 hj).1
  have h2 := nth_get (l := w) (i := j) (by omega) (by omega)
  rw [Int.toNat_natCast, hj] at h2
  rw [Option.some.inj h2]; exact h j (by omega) (by omega)
theorem okWs_no {w : List Int} {i : Int} (h0 : 0 ≤ i) (hi : i < w.length) (h : inR (nth w i) 0 1000000 = false ∨ 16 < w.length) : okWs w = false := by
  cases e : okWs w with
  | false => rfl
  | true =>
    rcases h with h | h
    · have := okWs_at e h0 hi; unfold inR at h; exact absurd this (of_decide_eq_false h)
    · have := okWs_len e; omega
theorem sumN_bound {f : Nat → Int} {n : Nat} (h : ∀ k, k < n → 0 ≤ f k ∧ f k ≤ 1000000) : 0 ≤ sumN f n ∧ sumN f n ≤ 1000000 * n := by
  have h1 := @sumN_nonneg f n fun k hk => (h k hk).1
  have h2 := @sumN_le f (fun _ => 1000000) n fun k hk => (h k hk).2
  rw [sumN_const] at h2
  exact ⟨h1, h2⟩
theorem mul_bound {t x : Int} (ht : 0 ≤ t ∧ t ≤ 1000000000000) (hx : 0 ≤ x ∧ x ≤ 1000000) : 0 ≤ t * x ∧ t * x ≤ 1000000000000000000 :=
  ⟨Int.mul_nonneg ht.1 hx.1, by have := Int.mul_le_mul ht.2 hx.2 hx.1 (by omega : (0 : Int) ≤ 1000000000000); omega⟩
theorem cmpW_spec {t s : Int} {w : List Int} {v : Value} {b2 b3 b6 : Nat} {x y : Int} {w0 : World} (h2 : CellsAt w0 ⟨b2, 0, none⟩ [.int .i64 t]) (h3 : CellsAt w0 ⟨b3, 0, none⟩ [v]) (h6 : CellsAt w0 ⟨b6, 0, none⟩ [.int .i64 s])
    (hr : Rd (fInt .i64).ty w0 v w) (hok : okWs w = true) (ht : 0 ≤ t ∧ t ≤ 1000000000000) (hs : 0 < s) (hs2 : s ≤ 100000000) (hx : 0 ≤ x ∧ x < w.length) (hy : 0 ≤ y ∧ y < w.length) :
    CallsV Tryd.prog 63 #[.int .i64 x, .int .i64 y, .pointer (some ⟨b2, 0, none⟩), .pointer (some ⟨b3, 0, none⟩), .pointer (some ⟨b6, 0, none⟩)] w0 (.int .i64 (cmpW t s w x y)) := by
  have S := St.start w0
  obtain ⟨A, c, rfl⟩ := hr.len
  have m1 := mul_bound ht (okWs_at hok hx.1 hx.2)
  have m2 := mul_bound ht (okWs_at hok hy.1 hy.2)
  refine CallsV.mk ?_
  refine calls_enter Tryd.func63 rfl (by intro _ h; first | exact nomatch h.1 | (obtain ⟨_, h, _⟩ := h; exact nomatch h)) Tryd.ntmps63 rfl ?_
  repeat' (first | refine WP_seq ?_ | refine WP_region ?_ | refine wl_nil ?_ | refine then_normal ?_ | refine WP_ret ?_ | refine WP_draw (by kernel_rfl) (by kernel_rfl) ?_ | (refine ql_nil ?_; intro w hb; replace S := S.grow hb; clear hb) | (refine g_assign ?_; refine st_assign rfl ?_) | (refine gq_move ?_; refine q_move rfl ?_) | (refine gq_assign ?_; refine q_assign rfl ?_) | (refine gq_b_mul ?_; (refine q_val rfl (fun w' hb => r_mulN rfl rfl ?_ ?_) ?_; (first | omega | (simp <;> omega)); (first | omega | (simp <;> omega)))) | (refine gq_b_rem ?_; (refine q_val rfl (fun w' hb => r_remN rfl rfl ?_ ?_) ?_; (first | omega | (simp <;> omega)); (first | omega | (simp <;> omega)))) | (refine gq_indexAddr ?_; (refine q_val rfl (fun w' hb => r_indexAddr (hr.mono (S.grow hb).below) rfl rfl ?_ ?_) ?_; (first | omega | (simp <;> omega)); (first | omega | (simp <;> omega)))) | (refine gq_load ?_; first | refine q_val rfl (fun w' hb => r_loadAt (h2.mono (S.grow hb).below) rfl rfl) ?_ | refine q_val rfl (fun w' hb => r_loadAt (h3.mono (S.grow hb).below) rfl rfl) ?_ | refine q_val rfl (fun w' hb => r_loadAt (h6.mono (S.grow hb).below) rfl rfl) ?_ | (refine q_val rfl (fun w' hb => r_loadElem1 (hr.mono (S.grow hb).below) rfl ?_ ?_ rfl) ?_; (first | omega | (simp <;> omega)); (first | omega | (simp <;> omega)))) | (refine gq_callV ?_; refine q_callV rfl (fun w' hb => r_call2 rfl rfl rfl) (fun w' hb => cmp1_spec) ?_))
  exact end1 rfl rfl ⟨rfl, S.below⟩

theorem shI_no {t : Int} {ws : List Int} (h : okSh t ws = false) : shI t ws = ([], 390) := by unfold shI; rw [h]; rfl
theorem okSh_w {t : Int} {ws : List Int} (h : okWs ws = false) : okSh t ws = false := by unfold okSh; rw [h]; rfl
theorem okSh_s {t : Int} {ws : List Int} (h : sumW ws = 0) : okSh t ws = false := by unfold okSh; rw [decide_eq_false (fun h2 => h2 h)]; simp
theorem okSh_t {t : Int} {ws : List Int} (h : inR t 0 1000000000000 = false) : okSh t ws = false := by unfold okSh; rw [h]; simp
theorem repl_tab {f : Nat → Int} {n : Nat} {a : Int} (h : ∀ k, k < n → f k = a) : List.replicate n a = tab f n := by
  refine (List.eq_replicate_iff.2 ⟨tab_len, fun b hb => ?_⟩).symm
  unfold tab at hb
  obtain ⟨k, hk, rfl⟩ := List.mem_map.1 hb
  exact h k (List.mem_range.1 hk)
theorem tab_put' {f g : Nat → Int} {N i : Nat} {j x : Int} (h : i < N) (hj : j = i) (hg : ∀ k, k < N → (if k = i then x else f k) = g k) : (tab f N).set j.toNat x = tab g N := by
  rw [tab_put h hj]; exact tab_ext hg
theorem sumN_ge {f : Nat → Int} {i : Nat} : ∀ {n : Nat}, i < n → (∀ k, k < n → 0 ≤ f k) → f i ≤ sumN f n
  | 0, h, _ => by omega
  | n + 1, h, hf => by
    rw [sumN]
    by_cases e : i = n
    · subst e; have := @sumN_nonneg f i fun k hk => hf k (by omega); omega
    · have h1 := sumN_ge (f := f) (i := i) (n := n) (by omega) fun k hk => hf k (by omega)
      have := hf n (by omega); omega
theorem sumN_bnd {f : Nat → Int} {n : Nat} {a : Int} (h : ∀ k, k < n → 0 ≤ f k ∧ f k ≤ a) : 0 ≤ sumN f n ∧ sumN f n ≤ a * n := by
  have h1 := @sumN_nonneg f n fun k hk => (h k hk).1
  have h2 := @sumN_le f (fun _ => a) n fun k hk => (h k hk).2
  rw [sumN_const] at h2
  exact ⟨h1, h2⟩
theorem quoW_le {t s : Int} {ws : List Int} (hok : okWs ws = true) (ht : 0 ≤ t ∧ t ≤ 1000000000000) (hse : sumW ws = s) (hs : 0 < s) {k : Nat} (hk : k < ws.length) : 0 ≤ quoW t s ws k ∧ quoW t s ws k ≤ 1000000000000 := by
  have h1 : nth ws (k : Int) ≤ s := by rw [← hse]; exact sumN_ge (f := fun k => nth ws (k : Int)) hk fun j hj => (okWs_at hok (by omega) (by omega)).1
  have h0 := okWs_at hok (i := (k : Int)) (by omega) (by omega)
  unfold quoW
  refine ⟨Int.ediv_nonneg (Int.mul_nonneg ht.1 h0.1) (by omega), ?_⟩
  have h2 : t * nth ws (k : Int) ≤ t * s := Int.mul_le_mul_of_nonneg_left h1 ht.1
  have h3 := Int.ediv_le_ediv hs h2
  rw [Int.mul_ediv_cancel _ (by omega)] at h3
  omega
set_option maxHeartbeats 1000000 in
theorem shares_run {t : Int} {ws : List Int} {v : Value} {w0 : World} (hr : Rd (fInt .i64).ty w0 v ws) (hl : ws.length ≤ 1000000000) :
    CallsR Tryd.prog 27 #[.int .i64 t, v] w0 (RowE w0 (shI t ws)) := by
  have S := St.start w0
  obtain ⟨A, c, rfl⟩ := hr.len
  refine CallsR.mk ?_
  refine calls_enter Tryd.func27 rfl (by intro _ h; first | exact nomatch h.1 | (obtain ⟨_, h, _⟩ := h; exact nomatch h)) Tryd.ntmps27 rfl ?_
  repeat' (first | refine WP_seq ?_ | refine WP_region ?_ | refine wl_nil ?_ | refine then_normal ?_ | refine WP_block ?_ | (refine g_move ?_; refine st_move rfl ?_) | (refine g_assign ?_; refine st_assign rfl ?_) | (refine g_c_len ?_; refine st_val rfl (r_lenSlice rfl) ?_) | (refine g_load ?_; refine st_val rfl (r_loadVar (i := 1) S rfl rfl rfl) ?_) | (refine g_box ?_; refine st_valE rfl (r_box S rfl) ?_; rintro _ w ⟨b, rfl, -, S'⟩; replace S := S'; clear S') | (refine g_alloc ?_; refine st_valE rfl (r_alloc S) ?_; rintro _ w ⟨b, rfl, -, S'⟩; replace S := S'; clear S') | (refine g_store ?_; first | (refine st_skipE rfl (r_storeVar (i := 0) S rfl rfl rfl rfl (of_decide_eq_true rfl) (of_decide_eq_true rfl)) ?_; intro w S'; replace S := S'; clear S') | (refine st_skipE rfl (r_storeVar (i := 1) S rfl rfl rfl rfl (of_decide_eq_true rfl) (of_decide_eq_true rfl)) ?_; intro w S'; replace S := S'; clear S') | (refine st_skipE rfl (r_storeVar (i := 2) S rfl rfl rfl rfl (of_decide_eq_true rfl) (of_decide_eq_true rfl)) ?_; intro w S'; replace S := S'; clear S')))
  rename_i b2 _ b3 _
  obtain ⟨b6, rfl⟩ : ∃ x, x = b := ⟨_, rfl⟩
  refine WP_loop (fun m σ w1 => ∃ (i : Int), Has σ [(2, .pointer (some ⟨b2, 0, none⟩)), (3, .pointer (some ⟨b3, 0, none⟩)), (6, .pointer (some ⟨b6, 0, none⟩)), (16, .slice A ws.length c), (17, .int .i64 ws.length), (18, .int .i64 i)] ∧ St w0 w1 [.var b2 3 [.int .i64 t], .var b3 28 [.slice A ws.length c], .var b6 3 [.int .i64 (sumN (fun k => nth ws (k : Int)) i.toNat)]] ∧ 0 ≤ i ∧ i ≤ ws.length ∧ (∀ j : Int, 0 ≤ j → j < i → inR (nth ws j) 0 1000000 = true) ∧ (0 < i → ws.length ≤ 16) ∧ m = ws.length - i.toNat) ws.length ⟨0, ⟨rfl, rfl, rfl, rfl, rfl, rfl, trivial⟩, S, by omega, by omega, fun j p q => by omega, fun h => by omega, by omega⟩ ?_
  clear S
  rintro m σ w1 ⟨i, hs, S, hi0, hi1, hall, h16, rfl⟩
  refine WP_has hs ?_
  have hsb := @sumN_bound (fun k => nth ws (k : Int)) i.toNat fun k hk => of_decide_eq_true (hall k (by omega) (by omega))
  by_cases hi : i < ws.length
  · cases hb : inR (nth ws i) 0 1000000 with
    | false =>
      have e := shI_no (okSh_w (t := t) (okWs_no hi0 hi (.inl hb)))
      repeat' (first | refine WP_seq ?_ | refine WP_region ?_ | refine wl_nil ?_ | refine then_normal ?_ | refine then_ret ?_ | refine inB_ret ?_ | refine WP_ret ?_ | refine WP_skip ?_ | refine WP_block ?_ | refine WP_condT rfl ?_ | (refine g_guard ?_; refine st_off rfl ?_) | (refine g_move ?_; refine st_move rfl ?_) | (refine g_assign ?_; refine st_assign rfl ?_) | (refine g_pick ?_; refine st_pickT rfl rfl ?_) | (refine g_b_lss ?_; refine st_val rfl (r_lss rfl rfl) ?_) | (refine g_un ?_; refine st_val rfl (r_not rfl) ?_) | (refine g_indexAddr ?_; (refine st_val rfl (r_indexAddr (hr.mono S.below) rfl rfl ?_ ?_) ?_; (first | omega | (simp <;> omega)); (first | omega | (simp <;> omega)))) | (refine g_load ?_; (refine st_val rfl (r_loadElem1 (hr.mono S.below) rfl ?_ ?_ rfl) ?_; (first | omega | (simp <;> omega)); (first | omega | (simp <;> omega)))) | (refine g_callV ?_; (refine st_callV rfl (r_call3 rfl rfl rfl rfl) (wi_is hb) ?_; intro w hb; replace S := S.grow hb; clear hb)) | (refine WP_cond rfl (fun h => ?_) (fun h => ?_) <;> (fail_if_success (have hh : true = true := h)) <;> (fail_if_success (have hh : false = false := h)) <;> (try simp only [decide_eq_true_eq, decide_eq_false_iff_not, Bool.not_eq_true', Bool.not_eq_false', Int.not_lt, Int.not_le] at h) <;> (try (exfalso; omega))))
      exact end2 rfl rfl rfl ⟨_, rfl, S.below, _, by rw [e]; rfl, by rw [e]; exact NewRow.nil _ _ _ _⟩
    | true =>
      by_cases hn : 16 < ws.length
      · have e := shI_no (okSh_w (t := t) (okWs_no hi0 hi (.inr hn)))
        repeat' (first | refine WP_seq ?_ | refine WP_region ?_ | refine wl_nil ?_ | refine then_normal ?_ | refine then_ret ?_ | refine inB_ret ?_ | refine WP_ret ?_ | refine WP_skip ?_ | refine WP_block ?_ | (refine g_move ?_; refine st_move rfl ?_) | (refine g_assign ?_; refine st_assign rfl ?_) | (refine g_pick ?_; refine st_pickF rfl rfl ?_) | (refine g_b_lss ?_; refine st_val rfl (r_lss rfl rfl) ?_) | (refine g_b_gtr ?_; refine st_val rfl (r_gtr rfl rfl) ?_) | (refine g_un ?_; refine st_val rfl (r_not rfl) ?_) | (refine g_c_len ?_; refine st_val rfl (r_lenSlice rfl) ?_) | (refine g_indexAddr ?_; (refine st_val rfl (r_indexAddr (hr.mono S.below) rfl rfl ?_ ?_) ?_; (first | omega | (simp <;> omega)); (first | omega | (simp <;> omega)))) | (refine g_load ?_; first | (refine st_val rfl (r_loadElem1 (hr.mono S.below) rfl ?_ ?_ rfl) ?_; (first | omega | (simp <;> omega)); (first | omega | (simp <;> omega))) | refine st_val rfl (r_loadVar (i := 1) S rfl rfl rfl) ?_) | (refine g_callV ?_; (refine st_callV rfl (r_call3 rfl rfl rfl rfl) (wi_is hb) ?_; intro w hb; replace S := S.grow hb; clear hb)) | (refine WP_cond rfl (fun h => ?_) (fun h => ?_) <;> (fail_if_success (have hh : true = true := h)) <;> (fail_if_success (have hh : false = false := h)) <;> (try simp only [decide_eq_true_eq, decide_eq_false_iff_not, Bool.not_eq_true', Bool.not_eq_false', Int.not_lt, Int.not_le] at h) <;> (try (exfalso; omega))))
        exact end2 rfl rfl rfl ⟨_, rfl, S.below, _, by rw [e]; rfl, by rw [e]; exact NewRow.nil _ _ _ _⟩
      · have hbb : 0 ≤ nth ws i ∧ nth ws i ≤ 1000000 := of_decide_eq_true hb
        repeat' (first | refine WP_seq ?_ | refine WP_region ?_ | refine wl_nil ?_ | refine then_normal ?_ | refine inB_normal ?_ | refine WP_skip ?_ | refine WP_block ?_ | (refine g_move ?_; refine st_move rfl ?_) | (refine g_assign ?_; refine st_assign rfl ?_) | (refine g_pick ?_; refine st_pickF rfl rfl ?_) | (refine g_b_add ?_; (refine st_val rfl (r_addN rfl rfl ?_ ?_) ?_; (first | omega | (simp <;> omega)); (first | omega | (simp <;> omega)))) | (refine g_b_lss ?_; refine st_val rfl (r_lss rfl rfl) ?_) | (refine g_b_gtr ?_; refine st_val rfl (r_gtr rfl rfl) ?_) | (refine g_un ?_; refine st_val rfl (r_not rfl) ?_) | (refine g_c_len ?_; refine st_val rfl (r_lenSlice rfl) ?_) | (refine g_indexAddr ?_; (refine st_val rfl (r_indexAddr (hr.mono S.below) rfl rfl ?_ ?_) ?_; (first | omega | (simp <;> omega)); (first | omega | (simp <;> omega)))) | (refine g_load ?_; first | (refine st_val rfl (r_loadElem1 (hr.mono S.below) rfl ?_ ?_ rfl) ?_; (first | omega | (simp <;> omega)); (first | omega | (simp <;> omega))) | refine st_val rfl (r_loadVar (i := 1) S rfl rfl rfl) ?_ | refine st_val rfl (r_loadVar (i := 2) S rfl rfl rfl) ?_) | (refine g_callV ?_; (refine st_callV rfl (r_call3 rfl rfl rfl rfl) (wi_is hb) ?_; intro w hb; replace S := S.grow hb; clear hb)) | (refine g_store ?_; first | (refine st_skipE rfl (r_storeVar (i := 0) S rfl rfl rfl rfl (of_decide_eq_true rfl) (of_decide_eq_true rfl)) ?_; intro w S'; replace S := S'; clear S') | (refine st_skipE rfl (r_storeVar (i := 1) S rfl rfl rfl rfl (of_decide_eq_true rfl) (of_decide_eq_true rfl)) ?_; intro w S'; replace S := S'; clear S') | (refine st_skipE rfl (r_storeVar (i := 2) S rfl rfl rfl rfl (of_decide_eq_true rfl) (of_decide_eq_true rfl)) ?_; intro w S'; replace S := S'; clear S')) | (refine WP_cond rfl (fun h => ?_) (fun h => ?_) <;> (fail_if_success (have hh : true = true := h)) <;> (fail_if_success (have hh : false = false := h)) <;> (try simp only [decide_eq_true_eq, decide_eq_false_iff_not, Bool.not_eq_true', Bool.not_eq_false', Int.not_lt, Int.not_le] at h) <;> (try (exfalso; omega))))
        refine ⟨⟨_, ?_, i + 1, ⟨rfl, rfl, rfl, rfl, rfl, rfl, trivial⟩, ?_, by omega, by omega, fun j p q => ?_, fun _ => by omega, rfl⟩⟩
        · omega
        · rw [show (i + 1).toNat = i.toNat + 1 by omega, sumN, show ((i.toNat : Nat) : Int) = i by omega]
          exact S
        · by_cases e : j = i
          · subst e; exact hb
          · exact hall j p (by omega)
  have hit : i.toNat = ws.length := by omega
  rw [hit] at S hsb
  obtain ⟨s, hse⟩ : ∃ s, sumW ws = s := ⟨_, rfl⟩
  rw [show sumN (fun k => nth ws (k : Int)) ws.length = s from hse] at S hsb
  by_cases hs0 : s = 0
  · have e := shI_no (okSh_s (t := t) (hse.trans hs0))
    repeat' (first | refine WP_seq ?_ | refine WP_region ?_ | refine wl_nil ?_ | refine then_normal ?_ | refine then_exit ?_ | refine inB_here ?_ | refine then_ret ?_ | refine WP_ret ?_ | refine WP_exit ?_ | refine WP_condT rfl ?_ | (refine g_guard ?_; refine st_off rfl ?_) | (refine g_move ?_; refine st_move rfl ?_) | (refine g_assign ?_; refine st_assign rfl ?_) | (refine g_pick ?_; refine st_pickT rfl rfl ?_) | (refine g_b_eql ?_; refine st_val rfl (r_eql rfl rfl) ?_) | (refine g_b_lss ?_; refine st_val rfl (r_lss rfl rfl) ?_) | (refine g_load ?_; refine st_val rfl (r_loadVar (i := 2) S rfl rfl rfl) ?_) | (refine wl_split rfl rfl (fun h => ?_) (fun h => ?_) <;> (fail_if_success (have hh : true = true := h)) <;> (fail_if_success (have hh : false = false := h)) <;> (try simp only [decide_eq_true_eq, decide_eq_false_iff_not, Bool.not_eq_true', Bool.not_eq_false', Int.not_lt, Int.not_le] at h) <;> (try (exfalso; omega)) <;> (try (exfalso; exact absurd hs0 (by simpa using h); done))) | (refine WP_cond rfl (fun h => ?_) (fun h => ?_) <;> (fail_if_success (have hh : true = true := h)) <;> (fail_if_success (have hh : false = false := h)) <;> (try simp only [decide_eq_true_eq, decide_eq_false_iff_not, Bool.not_eq_true', Bool.not_eq_false', Int.not_lt, Int.not_le] at h) <;> (try (exfalso; omega)) <;> (try (exfalso; exact absurd hs0 (by simpa using h); done))))
    exact end2 rfl rfl rfl ⟨_, rfl, S.below, _, by rw [e]; rfl, by rw [e]; exact NewRow.nil _ _ _ _⟩
  have hspos : 0 < s := by omega
  have hlen : 0 < ws.length := by
    rcases Nat.eq_zero_or_pos ws.length with h | h
    · exact absurd (show s = 0 by rw [← hse]; unfold sumW; rw [h]; rfl) hs0
    · exact h
  have hl16 : ws.length ≤ 16 := h16 (by omega)
  cases htb : inR t 0 1000000000000 with
  | false =>
    have e := shI_no (okSh_t (ws := ws) htb)
    repeat' (first | refine WP_seq ?_ | refine WP_region ?_ | refine wl_nil ?_ | refine then_normal ?_ | refine then_exit ?_ | refine inB_here ?_ | refine then_ret ?_ | refine WP_ret ?_ | refine WP_exit ?_ | refine WP_condT rfl ?_ | (refine g_move ?_; refine st_move rfl ?_) | (refine g_assign ?_; refine st_assign rfl ?_) | (refine g_pick ?_; refine st_pickF rfl rfl ?_) | (refine g_b_eql ?_; refine st_val rfl (r_eql rfl rfl) ?_) | (refine g_b_lss ?_; refine st_val rfl (r_lss rfl rfl) ?_) | (refine g_un ?_; refine st_val rfl (r_not rfl) ?_) | (refine g_load ?_; first | refine st_val rfl (r_loadVar (i := 0) S rfl rfl rfl) ?_ | refine st_val rfl (r_loadVar (i := 2) S rfl rfl rfl) ?_) | (refine g_callV ?_; (refine st_callV rfl (r_call3 rfl rfl rfl rfl) (wi_is htb) ?_; intro w hb; replace S := S.grow hb; clear hb)) | (refine wl_split rfl rfl (fun h => ?_) (fun h => ?_) <;> (fail_if_success (have hh : true = true := h)) <;> (fail_if_success (have hh : false = false := h)) <;> (try simp only [decide_eq_true_eq, decide_eq_false_iff_not, Bool.not_eq_true', Bool.not_eq_false', Int.not_lt, Int.not_le] at h) <;> (try (exfalso; omega)) <;> (try (exfalso; exact absurd (by simpa using h) hs0; done))) | (refine WP_cond rfl (fun h => ?_) (fun h => ?_) <;> (fail_if_success (have hh : true = true := h)) <;> (fail_if_success (have hh : false = false := h)) <;> (try simp only [decide_eq_true_eq, decide_eq_false_iff_not, Bool.not_eq_true', Bool.not_eq_false', Int.not_lt, Int.not_le] at h) <;> (try (exfalso; omega)) <;> (try (exfalso; exact absurd (by simpa using h) hs0; done))))
    exact end2 rfl rfl rfl ⟨_, rfl, S.below, _, by rw [e]; rfl, by rw [e]; exact NewRow.nil _ _ _ _⟩
  | true =>
  have ht : 0 ≤ t ∧ t ≤ 1000000000000 := of_decide_eq_true htb
  have hok : okWs ws = true := okWs_of hl16 fun j p q => hall j p (by omega)
  have e : shI t ws = (shP t s ws (leftW t s ws).toNat, 0) := by
    unfold shI okSh
    rw [hok, htb, decide_eq_true (by rw [hse]; exact hs0)]
    unfold shW
    rw [hse]; rfl
  rw [e]
  clear e
  repeat' (first | refine WP_seq ?_ | refine WP_region ?_ | refine wl_nil ?_ | refine then_normal ?_ | refine then_exit ?_ | refine inB_here ?_ | refine WP_skip ?_ | refine WP_exit ?_ | refine WP_condF rfl ?_ | (refine g_move ?_; refine st_move rfl ?_) | (refine g_pick ?_; refine st_pickF rfl rfl ?_) | (refine g_b_eql ?_; refine st_val rfl (r_eql rfl rfl) ?_) | (refine g_b_lss ?_; refine st_val rfl (r_lss rfl rfl) ?_) | (refine g_un ?_; refine st_val rfl (r_not rfl) ?_) | (refine g_load ?_; first | refine st_val rfl (r_loadVar (i := 0) S rfl rfl rfl) ?_ | refine st_val rfl (r_loadVar (i := 2) S rfl rfl rfl) ?_) | (refine g_callV ?_; (refine st_callV rfl (r_call3 rfl rfl rfl rfl) (wi_is htb) ?_; intro w hb; replace S := S.grow hb; clear hb)) | (refine wl_split rfl rfl (fun h => ?_) (fun h => ?_) <;> (fail_if_success (have hh : true = true := h)) <;> (fail_if_success (have hh : false = false := h)) <;> (try simp only [decide_eq_true_eq, decide_eq_false_iff_not, Bool.not_eq_true', Bool.not_eq_false', Int.not_lt, Int.not_le] at h) <;> (try (exfalso; omega)) <;> (try (exfalso; exact absurd (by simpa using h) hs0; done))) | (refine WP_cond rfl (fun h => ?_) (fun h => ?_) <;> (fail_if_success (have hh : true = true := h)) <;> (fail_if_success (have hh : false = false := h)) <;> (try simp only [decide_eq_true_eq, decide_eq_false_iff_not, Bool.not_eq_true', Bool.not_eq_false', Int.not_lt, Int.not_le] at h) <;> (try (exfalso; omega)) <;> (try (exfalso; exact absurd (by simpa using h) hs0; done))))
  refine WP_then_cut (fun σ w1 => ∃ (vo vt : Value), Has σ [(2, .pointer (some ⟨b2, 0, none⟩)), (3, .pointer (some ⟨b3, 0, none⟩)), (6, .pointer (some ⟨b6, 0, none⟩)), (9, vo), (10, vt), (11, .int .i64 t)] ∧ St w0 w1 [.var b2 3 [.int .i64 t], .var b3 28 [.slice A ws.length c], .var b6 3 [.int .i64 s], rowOb (fInt .i64) 3 vo (List.replicate ws.length 0), rowOb (fInt .i64) 3 vt (List.replicate ws.length 0)]) ?_ ?_
  · refine WP_drawT (fun w' => St w0 w' [.var b2 3 [.int .i64 t], .var b3 28 [.slice A ws.length c], .var b6 3 [.int .i64 s]]) [0, 1, 3, 4, 6] (.two 2 (.two 5 (.one 7 .fin) 7 (.one 5 .fin)) 5 (.one 2 (.one 7 .fin))) [8, 9] (by kernel_rfl) (by decide) (by decide +kernel) (fun w' hb => S.grow hb) ?_
    intro w hb; replace S := S.grow hb; clear hb
    refine jq_val rfl (fun w' hJ => r_loadVar (i := 1) hJ rfl rfl rfl) ?_
    refine jq_val rfl (fun w' hJ => r_lenSlice rfl) ?_
    refine jq_val rfl (fun w' hJ => r_loadVar (i := 1) hJ rfl rfl rfl) ?_
    refine jq_val rfl (fun w' hJ => r_lenSlice rfl) ?_
    refine jq_val rfl (fun w' hJ => r_loadVar (i := 0) hJ rfl rfl rfl) ?_
    refine jq_nil ?_
    refine wt_two ?_ ?_
    · refine kq_valE rfl (r_makeF (D := fInt .i64) (m := ws.length) 0 S rfl rfl rfl (by decide) (by omega) (by omega)) ?_; rintro vo w ⟨b, hvvo, -, S'⟩; refine ⟨S'.keep [true, true, true], ?_⟩; replace S := S'; clear S'
      refine wt_two ?_ ?_
      · refine kq_valE rfl (r_makeF (D := fInt .i64) (m := ws.length) 0 S rfl rfl rfl (by decide) (by omega) (by omega)) ?_; rintro vt w ⟨b, hvvt, -, S'⟩; refine ⟨S'.keep [true, true, true], ?_⟩; replace S := S'; clear S'
        refine wt_one ?_
        refine kq_valE (R := fun v w' => vo = v ∧ w = w') rfl ⟨_, _, ⟨rfl⟩, rfl, rfl⟩ ?_; rintro _ _ ⟨rfl, rfl⟩; refine ⟨S.keep [true, true, true], ?_⟩
        refine wt_fin ?_
        refine jq_val rfl (fun w' hJ => ⟨rfl⟩) ?_
        refine jq_val rfl (fun w' hJ => ⟨rfl⟩) ?_
        refine jq_nil ?_
        refine calm_normal ?_
        refine then_normal ?_
        exact ⟨vo, vt, ⟨rfl, rfl, rfl, rfl, rfl, rfl, trivial⟩, S⟩
      · refine kq_valE (R := fun v w' => vo = v ∧ w = w') rfl ⟨_, _, ⟨rfl⟩, rfl, rfl⟩ ?_; rintro _ _ ⟨rfl, rfl⟩; refine ⟨S.keep [true, true, true], ?_⟩
        refine wt_one ?_
        refine kq_valE rfl (r_makeF (D := fInt .i64) (m := ws.length) 0 S rfl rfl rfl (by decide) (by omega) (by omega)) ?_; rintro vt w ⟨b, hvvt, -, S'⟩; refine ⟨S'.keep [true, true, true], ?_⟩; replace S := S'; clear S'
        refine wt_fin ?_
        refine jq_val rfl (fun w' hJ => ⟨rfl⟩) ?_
        refine jq_val rfl (fun w' hJ => ⟨rfl⟩) ?_
        refine jq_nil ?_
        refine calm_normal ?_
        refine then_normal ?_
        exact ⟨vo, vt, ⟨rfl, rfl, rfl, rfl, rfl, rfl, trivial⟩, S⟩
    · refine kq_valE rfl (r_makeF (D := fInt .i64) (m := ws.length) 0 S rfl rfl rfl (by decide) (by omega) (by omega)) ?_; rintro vt w ⟨b, hvvt, -, S'⟩; refine ⟨S'.keep [true, true, true], ?_⟩; replace S := S'; clear S'
      refine wt_one ?_
      refine kq_valE rfl (r_makeF (D := fInt .i64) (m := ws.length) 0 S rfl rfl rfl (by decide) (by omega) (by omega)) ?_; rintro vo w ⟨b, hvvo, -, S'⟩; refine ⟨S'.keep [true, true, true], ?_⟩; replace S := S'; clear S'
      refine wt_one ?_
      refine kq_valE (R := fun v w' => vo = v ∧ w = w') rfl ⟨_, _, ⟨rfl⟩, rfl, rfl⟩ ?_; rintro _ _ ⟨rfl, rfl⟩; refine ⟨S.keep [true, true, true], ?_⟩
      refine wt_fin ?_
      refine jq_val rfl (fun w' hJ => ⟨rfl⟩) ?_
      refine jq_val rfl (fun w' hJ => ⟨rfl⟩) ?_
      refine jq_nil ?_
      refine calm_normal ?_
      refine then_normal ?_
      exact ⟨vo, vt, ⟨rfl, rfl, rfl, rfl, rfl, rfl, trivial⟩, S.perm ((List.Perm.swap _ _ []).append_left [_, _, _])⟩
  rintro σ w1 ⟨vo, vt, hs, S⟩
  refine WP_has hs ?_
  repeat' (first | refine WP_seq ?_ | refine WP_region ?_ | refine wl_nil ?_ | refine then_normal ?_ | refine WP_block ?_ | (refine g_move ?_; refine st_move rfl ?_) | (refine g_c_len ?_; refine st_val rfl (r_lenSlice rfl) ?_) | (refine g_load ?_; refine st_val rfl (r_loadVar (i := 1) S rfl rfl rfl) ?_))
  refine WP_loop (fun m σ w1 => ∃ (i : Int), Has σ [(2, .pointer (some ⟨b2, 0, none⟩)), (3, .pointer (some ⟨b3, 0, none⟩)), (6, .pointer (some ⟨b6, 0, none⟩)), (9, vo), (10, vt), (11, .int .i64 (t - sumN (fun k => quoW t s ws k) i.toNat)), (48, .slice A ws.length c), (49, .int .i64 ws.length), (50, .int .i64 i)] ∧ St w0 w1 [.var b2 3 [.int .i64 t], .var b3 28 [.slice A ws.length c], .var b6 3 [.int .i64 s], rowOb (fInt .i64) 3 vo (tab (fun k => if k < i.toNat then quoW t s ws k else 0) ws.length), rowOb (fInt .i64) 3 vt (tab (fun k => if k < i.toNat then (k : Int) else 0) ws.length)] ∧ 0 ≤ i ∧ i ≤ ws.length ∧ m = ws.length - i.toNat) ws.length ⟨0, ⟨rfl, rfl, rfl, rfl, rfl, ?_, rfl, rfl, rfl, trivial⟩, ?_, by omega, by omega, by omega⟩ ?_
  · show Value.int .i64 t = Value.int .i64 (t - 0); rw [Int.sub_zero]
  · rw [← repl_tab (a := 0) (f := fun k => if k < (0 : Int).toNat then quoW t s ws k else 0) (fun k _ => if_neg (by simp)), ← repl_tab (a := 0) (f := fun k => if k < (0 : Int).toNat then (k : Int) else 0) (fun k _ => if_neg (by simp))]; exact S
  clear S hs
  rintro m σ w1 ⟨i, hs, S, hi0, hi1, rfl⟩
  refine WP_has hs ?_
  have hqr := fun (k : Nat) (hk : k < ws.length) => quoW_le hok ht hse hspos hk
  have hsq := @sumN_bnd (fun k => quoW t s ws k) i.toNat 1000000000000 fun k hk => hqr k (by omega)
  by_cases hi : i < ws.length
  · have hm := mul_bound ht (okWs_at hok hi0 hi)
    have hq := hqr i.toNat (by omega)
    rw [show ((i.toNat : Nat) : Int) = i by omega] at hq
    have hl1 := @tab_len (fun k => if k < i.toNat then quoW t s ws k else 0) ws.length
    have hl2 := @tab_len (fun k => if k < i.toNat then (k : Int) else 0) ws.length
    repeat' (first | refine WP_seq ?_ | refine WP_region ?_ | refine wl_nil ?_ | refine then_normal ?_ | refine WP_skip ?_ | refine WP_block ?_ | (refine g_move ?_; refine st_move rfl ?_) | (refine g_assign ?_; refine st_assign rfl ?_) | (refine g_b_mul ?_; (refine st_val rfl (r_mulN rfl rfl ?_ ?_) ?_; (first | omega | (simp <;> omega)); (first | omega | (simp <;> omega)))) | (refine g_b_quo ?_; (refine st_val rfl (r_quoN rfl rfl ?_ ?_ ?_) ?_; (first | omega | (simp <;> omega)); (first | omega | (simp <;> omega)); (first | omega | (simp <;> omega)))) | (refine g_b_lss ?_; refine st_val rfl (r_lss rfl rfl) ?_) | (refine g_indexAddr ?_; first | (refine st_val rfl (r_indexAddr (hr.mono S.below) rfl rfl ?_ ?_) ?_; (first | omega | (simp <;> omega)); (first | omega | (simp <;> omega))) | (refine st_val rfl (r_indexAddr (S.rdRow (D := (fInt .i64)) (i := 3) rfl) rfl rfl ?_ ?_) ?_; (first | omega | (simp <;> omega)); (first | omega | (simp <;> omega)))) | (refine g_load ?_; first | (refine st_val rfl (r_loadElem1 (hr.mono S.below) rfl ?_ ?_ rfl) ?_; (first | omega | (simp <;> omega)); (first | omega | (simp <;> omega))) | refine st_val rfl (r_loadVar (i := 0) S rfl rfl rfl) ?_ | refine st_val rfl (r_loadVar (i := 2) S rfl rfl rfl) ?_) | (refine WP_cond rfl (fun h => ?_) (fun h => ?_) <;> (fail_if_success (have hh : true = true := h)) <;> (fail_if_success (have hh : false = false := h)) <;> (try simp only [decide_eq_true_eq, decide_eq_false_iff_not, Bool.not_eq_true', Bool.not_eq_false', Int.not_lt, Int.not_le] at h) <;> (try (exfalso; omega))))
    refine st_skipE rfl (r_storeElem (i := 3) (D := fInt .i64) S rfl rfl rfl rfl (fun c hc => by cases List.mem_singleton.1 hc; rfl) (by omega) (by omega)) ?_
    intro w S'; replace S := S'; clear S'
    repeat' ((refine g_indexAddr ?_; (refine st_val rfl (r_indexAddr (S.rdRow (D := (fInt .i64)) (i := 4) rfl) rfl rfl ?_ ?_) ?_; (first | omega | (simp <;> omega)); (first | omega | (simp <;> omega)))))
    refine st_skipE rfl (r_storeElem (i := 4) (D := fInt .i64) S rfl rfl rfl rfl (fun c hc => by cases List.mem_singleton.1 hc; rfl) (by omega) (by omega)) ?_
    intro w S'
    have en : (i + 1).toNat = i.toNat + 1 := by omega
    have ei : ((i.toNat : Nat) : Int) = i := by omega
    have hg1 : ∀ k, k < ws.length → (if k = i.toNat then quoW t s ws i else (if k < i.toNat then quoW t s ws k else 0)) = if k < (i + 1).toNat then quoW t s ws k else 0 := by
      intro k hk
      rw [en]
      by_cases e : k = i.toNat
      · rw [if_pos e, if_pos (by omega), e, ei]
      · rw [if_neg e]
        by_cases e2 : k < i.toNat
        · rw [if_pos e2, if_pos (by omega)]
        · rw [if_neg e2, if_neg (by omega)]
    have hg2 : ∀ k, k < ws.length → (if k = i.toNat then i else (if k < i.toNat then (k : Int) else 0)) = if k < (i + 1).toNat then (k : Int) else 0 := by
      intro k hk
      rw [en]
      by_cases e : k = i.toNat
      · rw [if_pos e, if_pos (by omega), e, ei]
      · rw [if_neg e]
        by_cases e2 : k < i.toNat
        · rw [if_pos e2, if_pos (by omega)]
        · rw [if_neg e2, if_neg (by omega)]
    replace S : St w0 w [.var b2 3 [.int .i64 t], .var b3 28 [.slice A ws.length c], .var b6 3 [.int .i64 s], rowOb (fInt .i64) 3 vo (tab (fun k => if k < (i + 1).toNat then quoW t s ws k else 0) ws.length), rowOb (fInt .i64) 3 vt (tab (fun k => if k < (i + 1).toNat then (k : Int) else 0) ws.length)] := by
      have S2 : St w0 w [.var b2 3 [.int .i64 t], .var b3 28 [.slice A ws.length c], .var b6 3 [.int .i64 s], rowOb (fInt .i64) 3 vo ((tab (fun k => if k < i.toNat then quoW t s ws k else 0) ws.length).set i.toNat (quoW t s ws i)), rowOb (fInt .i64) 3 vt ((tab (fun k => if k < i.toNat then (k : Int) else 0) ws.length).set i.toNat i)] := S'
      rw [tab_put' (i := i.toNat) (j := i) (by omega) (by omega) hg1, tab_put' (i := i.toNat) (j := i) (by omega) (by omega) hg2] at S2
      exact S2
    clear S'
    have hl3 := @tab_len (fun k => if k < (i + 1).toNat then quoW t s ws k else 0) ws.length
    have hn : nth (tab (fun k => if k < (i + 1).toNat then quoW t s ws k else 0) ws.length) i = quoW t s ws i := by rw [tab_nth (i := i.toNat) (by omega) (by omega), if_pos (by omega), ei]
    repeat' (first | refine WP_region ?_ | refine wl_nil ?_ | refine then_normal ?_ | refine inB_normal ?_ | (refine g_move ?_; refine st_move rfl ?_) | (refine g_assign ?_; refine st_assign rfl ?_) | (refine g_b_add ?_; (refine st_val rfl (r_addN rfl rfl ?_ ?_) ?_; (first | omega | (simp <;> omega)); (first | omega | (simp <;> omega)))) | (refine g_b_sub ?_; (refine st_val rfl (r_subN rfl rfl ?_ ?_) ?_; (first | omega | (simp <;> omega)); (first | omega | (simp <;> omega)))) | (refine g_indexAddr ?_; (refine st_val rfl (r_indexAddr (S.rdRow (D := (fInt .i64)) (i := 3) rfl) rfl rfl ?_ ?_) ?_; (first | omega | (simp <;> omega)); (first | omega | (simp <;> omega)))) | (refine g_load ?_; (refine st_val rfl (r_loadElem1 (S.rdRow (D := (fInt .i64)) (i := 3) rfl) rfl ?_ ?_ rfl) ?_; (first | omega | (simp <;> omega)); (first | omega | (simp <;> omega)))))
    refine ⟨⟨_, ?_, i + 1, ⟨rfl, rfl, rfl, rfl, rfl, ?_, rfl, rfl, rfl, trivial⟩, S, by omega, by omega, rfl⟩⟩
    · omega
    · show Value.int .i64 (_ - _) = _
      rw [hn, en, sumN, ei]
      congr 1
      omega
  have hil : i.toNat = ws.length := by omega
  rw [hil] at S hs
  repeat' (first | refine WP_seq ?_ | refine WP_region ?_ | refine wl_nil ?_ | refine then_normal ?_ | refine then_exit ?_ | refine inB_here ?_ | refine WP_exit ?_ | (refine g_move ?_; refine st_move rfl ?_) | (refine g_b_lss ?_; refine st_val rfl (r_lss rfl rfl) ?_) | (refine g_makeFunc ?_; refine st_val rfl (r_makeFn3 rfl rfl rfl) ?_) | (refine WP_cond rfl (fun h => ?_) (fun h => ?_) <;> (fail_if_success (have hh : true = true := h)) <;> (fail_if_success (have hh : false = false := h)) <;> (try simp only [decide_eq_true_eq, decide_eq_false_iff_not, Bool.not_eq_true', Bool.not_eq_false', Int.not_lt, Int.not_le] at h) <;> (try (exfalso; omega))))
  have hlr := @left_rng t s ws hspos hse.symm
  obtain ⟨L, hL⟩ : ∃ L, leftW t s ws = L := ⟨_, rfl⟩
  rw [hL] at hlr
  replace S : St w0 w1 (rowT vt idf ws.length :: [.var b2 3 [.int .i64 t], .var b3 28 [.slice A ws.length c], .var b6 3 [.int .i64 s], rowOb (fInt .i64) 3 vo (shP t s ws 0)]) := by
    rw [shP_zero, ← tab_ext (f := fun k => if k < ws.length then quoW t s ws k else 0) (g := fun k => quoW t s ws k) (fun k hk => if_pos hk)]
    have e2 : tab idf ws.length = tab (fun k => if k < ws.length then (k : Int) else 0) ws.length := tab_ext (fun k hk => (if_pos hk).symm)
    unfold rowT
    rw [e2]
    exact S.perm (List.perm_append_comm (l₁ := [_, _, _, _]) (l₂ := [_]))
  skip
  refine st_callW rfl (r_call2 rfl rfl rfl) (sortG_run (cf := cmpW t s ws) (kc := 63) (cc := [.pointer (some ⟨b2, 0, none⟩), .pointer (some ⟨b3, 0, none⟩), .pointer (some ⟨b6, 0, none⟩)]) (N := ws.length) ⟨fun f w x y S hx hy => cmpW_spec (S.var (i := 1) rfl) (S.var (i := 2) rfl) (S.var (i := 3) rfl) (hr.mono S.below) hok ht hspos (by omega) hx hy⟩ (cW_sw t s ws) S hlen (by omega)) ?_
  rintro u w S'
  replace S : St w0 w [rowOb (fInt .i64) 3 vt (turnW t s ws), .var b2 3 [.int .i64 t], .var b3 28 [.slice A ws.length c], .var b6 3 [.int .i64 s], rowOb (fInt .i64) 3 vo (shP t s ws 0)] := S'
  clear S'
  have htl := @turnW_len t s ws
  have hLi : t - sumN (fun k => quoW t s ws k) i.toNat = L := by rw [hil, ← hL]; rfl
  rw [hLi]
  repeat' (first | refine WP_seq ?_ | refine WP_region ?_ | refine wl_nil ?_ | refine then_normal ?_ | (refine g_move ?_; refine st_move rfl ?_))
  refine st_valE rfl (r_sliceHiE (S.rdRow (D := fInt .i64) (i := 0) rfl) rfl rfl (by omega) (by omega)) ?_
  rintro _ w2 ⟨rfl, Ah, ch, rfl, hcut⟩
  have hcr := fun (w' : World) (R : Rd (fInt .i64).ty w' vt (turnW t s ws)) => R.cut (lo := 0) (hi := L.toNat) (by omega) (by omega)
  rw [← hcut, List.drop_zero] at hcr
  have htk : ((turnW t s ws).take L.toNat).length = L.toNat := by rw [List.length_take]; omega
  repeat' (first | refine wl_nil ?_ | refine then_normal ?_ | refine WP_block ?_ | (refine g_move ?_; refine st_move rfl ?_) | (refine g_c_len ?_; refine st_val rfl (r_lenSlice rfl) ?_))
  refine WP_loop (fun m σ w1 => ∃ (i : Int), Has σ [(9, vo), (79, .slice Ah ((turnW t s ws).take L.toNat).length ch), (80, .int .i64 ((turnW t s ws).take L.toNat).length), (81, .int .i64 i)] ∧ St w0 w1 [rowOb (fInt .i64) 3 vt (turnW t s ws), rowOb (fInt .i64) 3 vo (shP t s ws i.toNat)] ∧ 0 ≤ i ∧ i ≤ L ∧ m = L.toNat - i.toNat) L.toNat ⟨0, ⟨rfl, rfl, rfl, rfl, trivial⟩, S.keep [true, false, false, false, true], by omega, by omega, by omega⟩ ?_
  clear S hs
  rintro m σ w1 ⟨i, hs, S, hi0, hi1, rfl⟩
  refine WP_has hs ?_
  by_cases hi : i < L
  · have hx : nth ((turnW t s ws).take L.toNat) i = nth (turnW t s ws) i := by
      unfold nth; rw [List.getD_eq_getElem?_getD, List.getD_eq_getElem?_getD, List.getElem?_take_of_lt (by omega)]
    have hxr := turnW_mem.1 (nth_mem (l := turnW t s ws) hi0 (by omega))
    have hxb := @shP_nth t s ws i.toNat _ hxr.1 hxr.2
    have hxq := quoW_le (k := (nth (turnW t s ws) i).toNat) hok ht hse hspos (by omega)
    rw [show (((nth (turnW t s ws) i).toNat : Nat) : Int) = nth (turnW t s ws) i by omega] at hxq
    have hsl := @shP_len t s ws i.toNat
    have hstep := @shP_step t s ws i.toNat (nth (turnW t s ws) i) (by omega) (by rw [show ((i.toNat : Nat) : Int) = i by omega])
    rw [← hx] at hxr hxb hxq hstep
    repeat' (first | refine WP_seq ?_ | refine WP_region ?_ | refine wl_nil ?_ | refine then_normal ?_ | refine WP_skip ?_ | refine WP_block ?_ | (refine g_move ?_; refine st_move rfl ?_) | (refine g_assign ?_; refine st_assign rfl ?_) | (refine g_b_add ?_; (refine st_val rfl (r_addN rfl rfl ?_ ?_) ?_; (first | omega | (simp <;> omega)); (first | omega | (simp <;> omega)))) | (refine g_b_lss ?_; refine st_val rfl (r_lss rfl rfl) ?_) | (refine g_indexAddr ?_; first | (refine st_val rfl (r_indexAddr (hcr _ (S.rdRow (D := fInt .i64) (i := 0) rfl)) rfl rfl ?_ ?_) ?_; (first | omega | (simp <;> omega)); (first | omega | (simp <;> omega))) | (refine st_val rfl (r_indexAddr (S.rdRow (D := (fInt .i64)) (i := 1) rfl) rfl rfl ?_ ?_) ?_; (first | omega | (simp <;> omega)); (first | omega | (simp <;> omega)))) | (refine g_load ?_; first | (refine st_val rfl (r_loadElem1 (hcr _ (S.rdRow (D := fInt .i64) (i := 0) rfl)) rfl ?_ ?_ rfl) ?_; (first | omega | (simp <;> omega)); (first | omega | (simp <;> omega))) | (refine st_val rfl (r_loadElem1 (S.rdRow (D := (fInt .i64)) (i := 1) rfl) rfl ?_ ?_ rfl) ?_; (first | omega | (simp <;> omega)); (first | omega | (simp <;> omega)))) | (refine WP_cond rfl (fun h => ?_) (fun h => ?_) <;> (fail_if_success (have hh : true = true := h)) <;> (fail_if_success (have hh : false = false := h)) <;> (try simp only [decide_eq_true_eq, decide_eq_false_iff_not, Bool.not_eq_true', Bool.not_eq_false', Int.not_lt, Int.not_le] at h) <;> (try (exfalso; omega))))
    refine st_skipE rfl (r_storeElem (i := 1) (D := fInt .i64) S rfl rfl rfl rfl (fun c hc => by cases List.mem_singleton.1 hc; rfl) (by omega) (by omega)) ?_
    intro w S'
    have S2 : St w0 w [rowOb (fInt .i64) 3 vt (turnW t s ws), rowOb (fInt .i64) 3 vo ((shP t s ws i.toNat).set (nth ((turnW t s ws).take L.toNat) i).toNat (nth (shP t s ws i.toNat) (nth ((turnW t s ws).take L.toNat) i) + 1))] := S'
    rw [hstep] at S2
    clear S S'
    have S := S2
    clear S2
    repeat' (first | refine WP_region ?_ | refine wl_nil ?_ | refine then_normal ?_ | refine inB_normal ?_ | (refine g_move ?_; refine st_move rfl ?_) | (refine g_b_add ?_; (refine st_val rfl (r_addN rfl rfl ?_ ?_) ?_; (first | omega | (simp <;> omega)); (first | omega | (simp <;> omega)))))
    refine ⟨⟨_, ?_, i + 1, ⟨rfl, rfl, rfl, rfl, trivial⟩, by rw [show (i + 1).toNat = i.toNat + 1 by omega]; exact S, by omega, by omega, rfl⟩⟩
    omega
  have hiL : i.toNat = L.toNat := by omega
  rw [hiL, ← hL] at S
  repeat' (first | refine WP_seq ?_ | refine WP_region ?_ | refine wl_nil ?_ | refine then_normal ?_ | refine then_exit ?_ | refine inB_here ?_ | refine WP_ret ?_ | refine WP_exit ?_ | (refine g_move ?_; refine st_move rfl ?_) | (refine g_assign ?_; refine st_assign rfl ?_) | (refine g_b_lss ?_; refine st_val rfl (r_lss rfl rfl) ?_) | (refine WP_cond rfl (fun h => ?_) (fun h => ?_) <;> (fail_if_success (have hh : true = true := h)) <;> (fail_if_success (have hh : false = false := h)) <;> (try simp only [decide_eq_true_eq, decide_eq_false_iff_not, Bool.not_eq_true', Bool.not_eq_false', Int.not_lt, Int.not_le] at h) <;> (try (exfalso; omega))))
  exact end2 rfl rfl rfl ⟨_, rfl, S.below, _, rfl, S.row (i := 1) rfl⟩
end Go.Proofs.YtijnbpnficcpmaaDoor
/- slices.Max; bill.Royalties. -/
namespace Go.Proofs.YtijnbpnficcpmaaDoor
open Go Go.Gx Go.RowKit
set_option linter.unusedVariables false
set_option linter.unusedSimpArgs false

/-- The greatest of the first numbers. -/
def maxTo (l : List Int) : Nat → Int
  | 0 => nth l 0
  | n + 1 => max (maxTo l n) (nth l (n : Int))
theorem maxTo_one (l : List Int) : maxTo l 1 = nth l 0 := Int.max_self _
theorem maxTo_le {l : List Int} : ∀ {n k : Nat}, k < n → nth l (k : Int) ≤ maxTo l n
  | 0, k, h => by omega
  | n + 1, k, h => by
    rw [maxTo]
    by_cases e : k = n
    · subst e; omega
    · have := maxTo_le (l := l) (n := n) (k := k) (by omega); omega
theorem maxTo_zero {l : List Int} {n : Nat} (h0 : 0 < n) (hp : ∀ k, k < n → 0 ≤ nth l (k : Int)) : maxTo l n = 0 ↔ sumN (fun k => nth l (k : Int)) n = 0 := by
  constructor
  · intro h
    have e : sumN (fun k => nth l (k : Int)) n = sumN (fun _ => 0) n := sumN_congr fun k hk => by
      have h1 := @maxTo_le l n k hk
      have h2 := hp k hk
      show nth l (k : Int) = 0
      omega
    rw [e, sumN_const]; omega
  · intro h
    have hz := sumN_zero_of (f := fun k => nth l (k : Int)) hp h
    have key : ∀ m, m ≤ n → maxTo l m = 0 := by
      intro m
      induction m with
      | zero => intro _; exact hz 0 h0
      | succ m ih =>
        intro hm
        rw [maxTo, ih (by omega)]
        have e : nth l (m : Int) = 0 := hz m (by omega)
        rw [e]; rfl
    exact key n (Nat.le_refl _)
theorem max_spec {v : Value} {l : List Int} {w : World} (hr : Rd (fInt .i64).ty w v l) (hl : l.length ≤ 1000000000) (h0 : 0 < l.length) : CallsV Tryd.prog 65 #[v] w (.int .i64 (maxTo l l.length)) := by
  have S := St.start w
  obtain ⟨A, c, rfl⟩ := hr.len
  refine CallsV.mk ?_
  refine calls_enter Tryd.func65 rfl (by intro _ h; first | exact nomatch h.1 | (obtain ⟨_, h, _⟩ := h; exact nomatch h)) Tryd.ntmps65 rfl ?_
  repeat' (first | refine WP_seq ?_ | refine WP_region ?_ | refine wl_nil ?_ | refine then_normal ?_ | refine WP_skip ?_ | refine WP_block ?_ | (refine g_move ?_; refine st_move rfl ?_) | (refine g_assign ?_; refine st_assign rfl ?_) | (refine g_b_lss ?_; refine st_val rfl (r_lss rfl rfl) ?_) | (refine g_c_len ?_; refine st_val rfl (r_lenSlice rfl) ?_) | (refine g_indexAddr ?_; (refine st_val rfl (r_indexAddr (hr.mono S.below) rfl rfl ?_ ?_) ?_; (first | omega | (simp <;> omega)); (first | omega | (simp <;> omega)))) | (refine g_load ?_; (refine st_val rfl (r_loadElem1 (hr.mono S.below) rfl ?_ ?_ rfl) ?_; (first | omega | (simp <;> omega)); (first | omega | (simp <;> omega)))) | (refine WP_cond rfl (fun h => ?_) (fun h => ?_) <;> (fail_if_success (have hh : true = true := h)) <;> (fail_if_success (have hh : false = false := h)) <;> (try simp only [decide_eq_true_eq, decide_eq_false_iff_not, Bool.not_eq_true', Bool.not_eq_false', Int.not_lt, Int.not_le] at h) <;> (try (exfalso; omega))))
  refine WP_loop (fun m σ w1 => ∃ i : Int, Has σ [(0, .slice A l.length c), (3, .int .i64 (maxTo l i.toNat)), (4, .int .i64 i)] ∧ St w w1 [] ∧ 1 ≤ i ∧ i ≤ l.length ∧ m = l.length - i.toNat) (l.length - 1) ⟨1, ⟨rfl, by show Value.int .i64 (nth l 0) = Value.int .i64 (maxTo l 1); rw [maxTo_one], rfl, trivial⟩, S, by omega, by omega, by omega⟩ ?_
  clear S
  rintro m σ w1 ⟨i, hs, S, hi1, hi2, rfl⟩
  refine WP_has hs ?_
  by_cases hi : i < l.length
  · repeat' (first | refine WP_seq ?_ | refine WP_region ?_ | refine wl_nil ?_ | refine then_normal ?_ | refine inB_normal ?_ | refine WP_skip ?_ | refine WP_block ?_ | (refine g_move ?_; refine st_move rfl ?_) | (refine g_assign ?_; refine st_assign rfl ?_) | (refine g_b_add ?_; (refine st_val rfl (r_addN rfl rfl ?_ ?_) ?_; (first | omega | (simp <;> omega)); (first | omega | (simp <;> omega)))) | (refine g_b_lss ?_; refine st_val rfl (r_lss rfl rfl) ?_) | (refine g_c_max ?_; refine st_val rfl (r_max2 rfl rfl) ?_) | (refine g_c_len ?_; refine st_val rfl (r_lenSlice rfl) ?_) | (refine g_indexAddr ?_; (refine st_val rfl (r_indexAddr (hr.mono S.below) rfl rfl ?_ ?_) ?_; (first | omega | (simp <;> omega)); (first | omega | (simp <;> omega)))) | (refine g_load ?_; (refine st_val rfl (r_loadElem1 (hr.mono S.below) rfl ?_ ?_ rfl) ?_; (first | omega | (simp <;> omega)); (first | omega | (simp <;> omega)))) | (refine WP_cond rfl (fun h => ?_) (fun h => ?_) <;> (fail_if_success (have hh : true = true := h)) <;> (fail_if_success (have hh : false = false := h)) <;> (try simp only [decide_eq_true_eq, decide_eq_false_iff_not, Bool.not_eq_true', Bool.not_eq_false', Int.not_lt, Int.not_le] at h) <;> (try (exfalso; omega))))
    refine ⟨⟨_, ?_, i + 1, ⟨rfl, ?_, rfl, trivial⟩, S, by omega, by omega, rfl⟩⟩
    · omega
    · rw [show (i + 1).toNat = i.toNat + 1 by omega, maxTo, show ((i.toNat : Nat) : Int) = i by omega]
      rfl
  · have e : i.toNat = l.length := by omega
    repeat' (first | refine WP_seq ?_ | refine WP_region ?_ | refine wl_nil ?_ | refine then_normal ?_ | refine then_exit ?_ | refine inB_here ?_ | refine WP_ret ?_ | refine WP_exit ?_ | (refine g_move ?_; refine st_move rfl ?_) | (refine g_assign ?_; refine st_assign rfl ?_) | (refine g_b_lss ?_; refine st_val rfl (r_lss rfl rfl) ?_) | (refine g_c_len ?_; refine st_val rfl (r_lenSlice rfl) ?_) | (refine WP_cond rfl (fun h => ?_) (fun h => ?_) <;> (fail_if_success (have hh : true = true := h)) <;> (fail_if_success (have hh : false = false := h)) <;> (try simp only [decide_eq_true_eq, decide_eq_false_iff_not, Bool.not_eq_true', Bool.not_eq_false', Int.not_lt, Int.not_le] at h) <;> (try (exfalso; omega))))
    refine end1 rfl rfl ⟨?_, S.below⟩
    rw [e]; rfl

/-! ### Royalties -/
def hitV (item : Int) (v : GVerdict) : Bool := decide (v.Kind = 1 ∧ v.Item = item)
def cntV (vs : List GVerdict) (item : Int) : Int := (vs.countP (hitV item) : Nat)
def prevN (l : List Int) (i : Int) : Int := if i = 0 then -1 else nth l (i - 1)
def okIt (l : List Int) (i : Int) : Bool := decide (prevN l i < nth l i ∧ nth l i < 200)
def okIts (l : List Int) : Bool := (List.range l.length).all fun (i : Nat) => okIt l (i : Int)
def okRo (t : Int) (l : List Int) (vs : List GVerdict) : Bool := inR t 0 1000000000000 && (inR l.length 1 16 && (validV vs && okIts l))
def wts (l : List Int) (vs : List GVerdict) : List Int := tab (fun k => cntV vs (nth l (k : Int))) l.length
def royI (t : Int) (l : List Int) (vs : List GVerdict) : List Int × Int := if okRo t l vs then (if sumW (wts l vs) = 0 then (wts l vs, 0) else shI t (wts l vs)) else ([], 390)
theorem cntV_step {vs : List GVerdict} {item : Int} {j : Int} (h0 : 0 ≤ j) (hj : j < vs.length) : cntV (vs.take (j + 1).toNat) item = cntV (vs.take j.toNat) item + (if hitV item (nth vs j) = true then 1 else 0) := by
  unfold cntV
  rw [show (j + 1).toNat = j.toNat + 1 by omega, List.take_add_one, nth_get h0 hj, Option.toList_some, List.countP_append, List.countP_singleton]
  split <;> simp
theorem cntV_le {vs : List GVerdict} {item : Int} : 0 ≤ cntV vs item ∧ cntV vs item ≤ vs.length := by
  unfold cntV; have := List.countP_le_length (p := hitV item) (l := vs); omega
theorem validV_len {vs : List GVerdict} (h : validV vs = true) : vs.length ≤ 200 := by
  unfold validV at h; rw [Bool.and_eq_true] at h; exact of_decide_eq_true h.1
theorem okIts_of {l : List Int} (h : ∀ j : Int, 0 ≤ j → j < l.length → okIt l j = true) : okIts l = true := by
  unfold okIts
  rw [List.all_eq_true]
  intro k hk
  exact h k (by omega) (by have := List.mem_range.1 hk; omega)
theorem okIts_at {l : List Int} (h : okIts l = true) {j : Int} (h0 : 0 ≤ j) (hj : j < l.length) : okIt l j = true := by
  unfold okIts at h
  rw [List.all_eq_true] at h
  have := h j.toNat (List.mem_range.2 (by omega))
  rwa [show ((j.toNat : Nat) : Int) = j by omega] at this
theorem okIts_no {l : List Int} {j : Int} (h0 : 0 ≤ j) (hj : j < l.length) (h : okIt l j = false) : okIts l = false := by
  cases e : okIts l with
  | false => rfl
  | true => rw [okIts_at e h0 hj] at h; cases h
theorem royI_no {t : Int} {l : List Int} {vs : List GVerdict} (h : okRo t l vs = false) : royI t l vs = ([], 390) := by unfold royI; rw [h]; rfl
theorem okRo_t {t : Int} {l : List Int} {vs : List GVerdict} (h : inR t 0 1000000000000 = false) : okRo t l vs = false := by unfold okRo; rw [h]; rfl
theorem okRo_l {t : Int} {l : List Int} {vs : List GVerdict} (h : inR l.length 1 16 = false) : okRo t l vs = false := by unfold okRo; rw [h]; simp
theorem okRo_v {t : Int} {l : List Int} {vs : List GVerdict} (h : validV vs = false) : okRo t l vs = false := by unfold okRo; rw [h]; simp
theorem okRo_i {t : Int} {l : List Int} {vs : List GVerdict} (h : okIts l = false) : okRo t l vs = false := by unfold okRo; rw [h]; simp
theorem validV_is {v : Value} {l : List GVerdict} {b : Bool} {w : World} (h : validV l = b) (hr : Rd fGVerdict.ty w v l) (hl : l.length ≤ 1000000000) : CallsV Tryd.prog 25 #[v] w (.bool b) := by rw [← h]; exact validV_spec hr hl
theorem wts_len {l : List Int} {vs : List GVerdict} : (wts l vs).length = l.length := by unfold wts; rw [tab_len]
theorem wts_nth {l : List Int} {vs : List GVerdict} {i : Int} (h0 : 0 ≤ i) (hi : i < l.length) : nth (wts l vs) i = cntV vs (nth l i) := by
  unfold wts; rw [tab_nth (i := i.toNat) (by omega) (by omega), show ((i.toNat : Nat) : Int) = i by omega]
/-- The weights while they are counted. -/
def wF (l : List Int) (vs : List GVerdict) (i j : Int) (k : Nat) : Int := if (k : Int) < i then cntV vs (nth l (k : Int)) else if (k : Int) = i then cntV (vs.take j.toNat) (nth l (k : Int)) else 0
theorem wF_next {l : List Int} {vs : List GVerdict} {i : Int} : wF l vs i vs.length = wF l vs (i + 1) 0 := by
  funext k
  unfold wF
  rw [Int.toNat_natCast, List.take_length]
  by_cases h1 : (k : Int) < i
  · rw [if_pos h1, if_pos (by omega)]
  · rw [if_neg h1]
    by_cases h2 : (k : Int) = i
    · rw [if_pos h2, if_pos (by omega)]
    · rw [if_neg h2, if_neg (by omega)]
      by_cases h3 : (k : Int) = i + 1
      · rw [if_pos h3]; simp [cntV]
      · rw [if_neg h3]
theorem wF_end {l : List Int} {vs : List GVerdict} : tab (wF l vs l.length 0) l.length = wts l vs := by
  unfold wts
  refine tab_ext fun k hk => ?_
  unfold wF
  rw [if_pos (by omega)]
theorem wF_start {l : List Int} {vs : List GVerdict} : List.replicate l.length 0 = tab (wF l vs 0 0) l.length := by
  refine repl_tab fun k hk => ?_
  unfold wF
  rw [if_neg (by omega)]
  split <;> simp [cntV]
theorem wF_at {l : List Int} {vs : List GVerdict} {i j : Int} (h0 : 0 ≤ i) (hi : i < l.length) : nth (tab (wF l vs i j) l.length) i = cntV (vs.take j.toNat) (nth l i) := by
  rw [tab_nth (i := i.toNat) (by omega) (by omega)]
  unfold wF
  rw [show ((i.toNat : Nat) : Int) = i by omega, if_neg (by omega), if_pos rfl]
theorem wF_put {l : List Int} {vs : List GVerdict} {i j x : Int} (h0 : 0 ≤ i) (hi : i < l.length) (hx : x = cntV (vs.take (j + 1).toNat) (nth l i)) : (tab (wF l vs i j) l.length).set i.toNat x = tab (wF l vs i (j + 1)) l.length := by
  refine tab_put' (i := i.toNat) (by omega) (by omega) fun k hk => ?_
  unfold wF
  by_cases e : k = i.toNat
  · rw [if_pos e, if_neg (by omega), if_pos (by omega), hx, show (k : Int) = i by omega]
  · rw [if_neg e]
    by_cases h1 : (k : Int) < i
    · rw [if_pos h1, if_pos h1]
    · rw [if_neg h1, if_neg h1, if_neg (by omega), if_neg (by omega)]
theorem wF_skip {l : List Int} {vs : List GVerdict} {i j : Int} (h : cntV (vs.take (j + 1).toNat) (nth l i) = cntV (vs.take j.toNat) (nth l i)) : wF l vs i (j + 1) = wF l vs i j := by
  funext k
  unfold wF
  by_cases h1 : (k : Int) < i
  · rw [if_pos h1, if_pos h1]
  · rw [if_neg h1, if_neg h1]
    by_cases h2 : (k : Int) = i
    · rw [if_pos h2, if_pos h2, h2, h]
    · rw [if_neg h2, if_neg h2]
set_option maxHeartbeats 1000000 in
theorem roy_run {t : Int} {l : List Int} {vs : List GVerdict} {v1 v2 : Value} {w0 : World} (hr : Rd (fInt .i64).ty w0 v1 l) (hr2 : Rd fGVerdict.ty w0 v2 vs) (hl : l.length ≤ 1000000000) (hl2 : vs.length ≤ 1000000000) :
    CallsR Tryd.prog 29 #[.int .i64 t, v1, v2] w0 (RowE w0 (royI t l vs)) := by
  have S := St.start w0
  obtain ⟨A, c, rfl⟩ := hr.len
  obtain ⟨A2, c2, rfl⟩ := hr2.len
  refine CallsR.mk ?_
  refine calls_enter Tryd.func29 rfl (by intro _ h; first | exact nomatch h.1 | (obtain ⟨_, h, _⟩ := h; exact nomatch h)) Tryd.ntmps29 rfl ?_
  cases ht : inR t 0 1000000000000 with
  | false =>
    have e := royI_no (l := l) (vs := vs) (okRo_t ht)
    repeat' (first | refine WP_seq ?_ | refine WP_region ?_ | refine wl_nil ?_ | refine then_normal ?_ | refine then_ret ?_ | refine WP_ret ?_ | refine WP_condT rfl ?_ | (refine g_guard ?_; refine st_off rfl ?_) | (refine g_move ?_; refine st_move rfl ?_) | (refine g_assign ?_; refine st_assign rfl ?_) | (refine g_pick ?_; refine st_pickT rfl rfl ?_) | (refine g_un ?_; refine st_val rfl (r_not rfl) ?_) | (refine g_callV ?_; (refine st_callV rfl (r_call3 rfl rfl rfl rfl) (wi_is ht) ?_; intro w hb; replace S := S.grow hb; clear hb)))
    exact end2 rfl rfl rfl ⟨_, rfl, S.below, _, by rw [e]; rfl, by rw [e]; exact NewRow.nil _ _ _ _⟩
  | true =>
  cases hn : inR l.length 1 16 with
  | false =>
    have e := royI_no (t := t) (vs := vs) (okRo_l hn)
    repeat' (first | refine WP_seq ?_ | refine WP_region ?_ | refine wl_nil ?_ | refine then_normal ?_ | refine then_ret ?_ | refine WP_ret ?_ | refine WP_condT rfl ?_ | (refine g_guard ?_; refine st_off rfl ?_) | (refine g_move ?_; refine st_move rfl ?_) | (refine g_assign ?_; refine st_assign rfl ?_) | (refine g_pick ?_; first | refine st_pickT rfl rfl ?_ | refine st_pickF rfl rfl ?_) | (refine g_un ?_; refine st_val rfl (r_not rfl) ?_) | (refine g_c_len ?_; refine st_val rfl (r_lenSlice rfl) ?_) | (refine g_callV ?_; first | (refine st_callV rfl (r_call3 rfl rfl rfl rfl) (wi_is ht) ?_; intro w hb; replace S := S.grow hb; clear hb) | (refine st_callV rfl (r_call3 rfl rfl rfl rfl) (wi_is hn) ?_; intro w hb; replace S := S.grow hb; clear hb)))
    exact end2 rfl rfl rfl ⟨_, rfl, S.below, _, by rw [e]; rfl, by rw [e]; exact NewRow.nil _ _ _ _⟩
  | true =>
  cases hv : validV vs with
  | false =>
    have e := royI_no (t := t) (l := l) (okRo_v hv)
    repeat' (first | refine WP_seq ?_ | refine WP_region ?_ | refine wl_nil ?_ | refine then_normal ?_ | refine then_ret ?_ | refine WP_ret ?_ | refine WP_condT rfl ?_ | (refine g_move ?_; refine st_move rfl ?_) | (refine g_assign ?_; refine st_assign rfl ?_) | (refine g_pick ?_; refine st_pickF rfl rfl ?_) | (refine g_un ?_; refine st_val rfl (r_not rfl) ?_) | (refine g_c_len ?_; refine st_val rfl (r_lenSlice rfl) ?_) | (refine g_callV ?_; first | (refine st_callV rfl (r_call3 rfl rfl rfl rfl) (wi_is ht) ?_; intro w hb; replace S := S.grow hb; clear hb) | (refine st_callV rfl (r_call3 rfl rfl rfl rfl) (wi_is hn) ?_; intro w hb; replace S := S.grow hb; clear hb) | (refine st_callV rfl (r_call1 rfl rfl) (validV_is hv (hr2.mono S.below) hl2) ?_; intro w hb; replace S := S.grow hb; clear hb)))
    exact end2 rfl rfl rfl ⟨_, rfl, S.below, _, by rw [e]; rfl, by rw [e]; exact NewRow.nil _ _ _ _⟩
  | true =>
  have hvl := validV_len hv
  have hnn : (1 : Int) ≤ l.length ∧ (l.length : Int) ≤ 16 := of_decide_eq_true hn
  repeat' (first | refine WP_seq ?_ | refine WP_region ?_ | refine wl_nil ?_ | refine then_normal ?_ | refine WP_skip ?_ | refine WP_condF rfl ?_ | (refine g_move ?_; refine st_move rfl ?_) | (refine g_assign ?_; refine st_assign rfl ?_) | (refine g_pick ?_; refine st_pickF rfl rfl ?_) | (refine g_un ?_; refine st_val rfl (r_not rfl) ?_) | (refine g_c_len ?_; refine st_val rfl (r_lenSlice rfl) ?_) | (refine g_callV ?_; first | (refine st_callV rfl (r_call3 rfl rfl rfl rfl) (wi_is ht) ?_; intro w hb; replace S := S.grow hb; clear hb) | (refine st_callV rfl (r_call3 rfl rfl rfl rfl) (wi_is hn) ?_; intro w hb; replace S := S.grow hb; clear hb) | (refine st_callV rfl (r_call1 rfl rfl) (validV_is hv (hr2.mono S.below) hl2) ?_; intro w hb; replace S := S.grow hb; clear hb)))
  refine st_valE rfl (r_makeF (D := fInt .i64) (m := l.length) 0 S rfl rfl rfl (by decide) (by omega) (by omega)) ?_
  rintro vo w ⟨b, hvo, -, S'⟩; replace S := S'; clear S'
  rw [wF_start (vs := vs)] at S
  repeat' (first | refine WP_seq ?_ | refine WP_region ?_ | refine wl_nil ?_ | refine then_normal ?_ | refine WP_block ?_ | (refine g_move ?_; refine st_move rfl ?_) | (refine g_assign ?_; refine st_assign rfl ?_) | (refine g_c_len ?_; refine st_val rfl (r_lenSlice rfl) ?_))
  refine WP_loop (fun m σ w1 => ∃ (i : Int), Has σ [(0, .int .i64 t), (2, .slice A2 vs.length c2), (8, .int .i64 (prevN l i)), (9, vo), (31, .slice A l.length c), (32, .int .i64 l.length), (33, .int .i64 i)] ∧ St w0 w1 [rowOb (fInt .i64) 3 vo (tab (wF l vs i 0) l.length)] ∧ 0 ≤ i ∧ i ≤ l.length ∧ (∀ j : Int, 0 ≤ j → j < i → okIt l j = true) ∧ m = l.length - i.toNat) l.length ⟨0, ⟨rfl, rfl, rfl, rfl, rfl, rfl, rfl, trivial⟩, S, by omega, by omega, fun j p q => by omega, by omega⟩ ?_
  clear S
  rintro m σ w1 ⟨i, hs, S, hi0, hi1, hall, rfl⟩
  refine WP_has hs ?_
  by_cases hi : i < l.length
  · cases hb : okIt l i with
    | false =>
      have e := royI_no (t := t) (vs := vs) (okRo_i (okIts_no hi0 hi hb))
      unfold okIt at hb
      have hb := of_decide_eq_false hb
      repeat' (first | refine WP_seq ?_ | refine WP_region ?_ | refine wl_nil ?_ | refine then_normal ?_ | refine then_ret ?_ | refine inB_ret ?_ | refine WP_ret ?_ | refine WP_skip ?_ | refine WP_block ?_ | refine WP_condT rfl ?_ | (refine g_guard ?_; refine st_off rfl ?_) | (refine g_move ?_; refine st_move rfl ?_) | (refine g_assign ?_; refine st_assign rfl ?_) | (refine g_pick ?_; first | refine st_pickT rfl rfl ?_ | refine st_pickF rfl rfl ?_) | (refine g_b_lss ?_; refine st_val rfl (r_lss rfl rfl) ?_) | (refine g_b_leq ?_; refine st_val rfl (r_leq rfl rfl) ?_) | (refine g_b_geq ?_; refine st_val rfl (r_geq rfl rfl) ?_) | (refine g_indexAddr ?_; (refine st_val rfl (r_indexAddr (hr.mono S.below) rfl rfl ?_ ?_) ?_; (first | omega | (simp <;> omega)); (first | omega | (simp <;> omega)))) | (refine g_load ?_; (refine st_val rfl (r_loadElem1 (hr.mono S.below) rfl ?_ ?_ rfl) ?_; (first | omega | (simp <;> omega)); (first | omega | (simp <;> omega)))) | (refine wl_split rfl rfl (fun h => ?_) (fun h => ?_) <;> (fail_if_success (have hh : true = true := h)) <;> (fail_if_success (have hh : false = false := h)) <;> (try simp only [decide_eq_true_eq, decide_eq_false_iff_not, Bool.not_eq_true', Bool.not_eq_false', Int.not_lt, Int.not_le] at h) <;> (try (exfalso; omega)) <;> (try (exfalso; omega; done))) | (refine WP_cond rfl (fun h => ?_) (fun h => ?_) <;> (fail_if_success (have hh : true = true := h)) <;> (fail_if_success (have hh : false = false := h)) <;> (try simp only [decide_eq_true_eq, decide_eq_false_iff_not, Bool.not_eq_true', Bool.not_eq_false', Int.not_lt, Int.not_le] at h) <;> (try (exfalso; omega)) <;> (try (exfalso; omega; done))))
      all_goals exact end2 rfl rfl rfl ⟨_, rfl, S.below, _, by rw [e]; rfl, by rw [e]; exact NewRow.nil _ _ _ _⟩
    | true =>
      have hb' := hb
      unfold okIt at hb'
      have hb' := of_decide_eq_true hb'
      repeat' (first | refine WP_seq ?_ | refine WP_region ?_ | refine wl_nil ?_ | refine then_normal ?_ | refine WP_skip ?_ | refine WP_block ?_ | (refine g_move ?_; refine st_move rfl ?_) | (refine g_assign ?_; refine st_assign rfl ?_) | (refine g_pick ?_; refine st_pickF rfl rfl ?_) | (refine g_b_lss ?_; refine st_val rfl (r_lss rfl rfl) ?_) | (refine g_b_leq ?_; refine st_val rfl (r_leq rfl rfl) ?_) | (refine g_b_geq ?_; refine st_val rfl (r_geq rfl rfl) ?_) | (refine g_c_len ?_; refine st_val rfl (r_lenSlice rfl) ?_) | (refine g_indexAddr ?_; (refine st_val rfl (r_indexAddr (hr.mono S.below) rfl rfl ?_ ?_) ?_; (first | omega | (simp <;> omega)); (first | omega | (simp <;> omega)))) | (refine g_load ?_; (refine st_val rfl (r_loadElem1 (hr.mono S.below) rfl ?_ ?_ rfl) ?_; (first | omega | (simp <;> omega)); (first | omega | (simp <;> omega)))) | (refine wl_split rfl rfl (fun h => ?_) (fun h => ?_) <;> (fail_if_success (have hh : true = true := h)) <;> (fail_if_success (have hh : false = false := h)) <;> (try simp only [decide_eq_true_eq, decide_eq_false_iff_not, Bool.not_eq_true', Bool.not_eq_false', Int.not_lt, Int.not_le] at h) <;> (try (exfalso; omega)) <;> (try (exfalso; omega; done))) | (refine WP_cond rfl (fun h => ?_) (fun h => ?_) <;> (fail_if_success (have hh : true = true := h)) <;> (fail_if_success (have hh : false = false := h)) <;> (try simp only [decide_eq_true_eq, decide_eq_false_iff_not, Bool.not_eq_true', Bool.not_eq_false', Int.not_lt, Int.not_le] at h) <;> (try (exfalso; omega)) <;> (try (exfalso; omega; done))))
      have hvle := fun j : Int => @cntV_le (vs.take j.toNat) (nth l i)
      refine WP_loop (fun m σ w1 => ∃ (j : Int), Has σ [(0, .int .i64 t), (2, .slice A2 vs.length c2), (8, .int .i64 (nth l i)), (9, vo), (10, .int .i64 i), (11, .int .i64 (nth l i)), (31, .slice A l.length c), (32, .int .i64 l.length), (33, .int .i64 i), (46, .slice A2 vs.length c2), (47, .int .i64 vs.length), (48, .int .i64 j)] ∧ St w0 w1 [rowOb (fInt .i64) 3 vo (tab (wF l vs i j) l.length)] ∧ 0 ≤ j ∧ j ≤ vs.length ∧ m = vs.length - j.toNat) vs.length ⟨0, ⟨rfl, rfl, rfl, rfl, rfl, rfl, rfl, rfl, rfl, rfl, rfl, rfl, trivial⟩, S, by omega, by omega, by omega⟩ ?_
      clear S hs
      rintro m σ w1 ⟨j, hs, S, hj0, hj1, rfl⟩
      refine WP_has hs ?_
      by_cases hj : j < vs.length
      · have hst := @cntV_step vs (nth l i) j hj0 hj
        have hc := hvle j
        rw [List.length_take] at hc
        have hat := @wF_at l vs i j hi0 hi
        have htl := @tab_len (wF l vs i j) l.length
        cases hh : hitV (nth l i) (nth vs j) with
        | true =>
          rw [hh, if_pos rfl] at hst
          have hh2 : (nth vs j).Kind = 1 ∧ (nth vs j).Item = nth l i := of_decide_eq_true hh
          repeat' (first | refine WP_seq ?_ | refine WP_region ?_ | refine wl_nil ?_ | refine then_normal ?_ | refine WP_skip ?_ | refine WP_block ?_ | (refine g_move ?_; refine st_move rfl ?_) | (refine g_pick ?_; refine st_pickT rfl rfl ?_) | (refine g_b_add ?_; (refine st_val rfl (r_addN rfl rfl ?_ ?_) ?_; (first | omega | (simp <;> omega)); (first | omega | (simp <;> omega)))) | (refine g_b_eql ?_; refine st_val rfl (r_eql rfl rfl) ?_) | (refine g_b_lss ?_; refine st_val rfl (r_lss rfl rfl) ?_) | (refine g_fieldAddr ?_; refine st_val rfl (r_fieldAddrL rfl) ?_) | (refine g_indexAddr ?_; first | (refine st_val rfl (r_indexAddr (hr2.mono S.below) rfl rfl ?_ ?_) ?_; (first | omega | (simp <;> omega)); (first | omega | (simp <;> omega))) | (refine st_val rfl (r_indexAddr (S.rdRow (D := (fInt .i64)) (i := 0) rfl) rfl rfl ?_ ?_) ?_; (first | omega | (simp <;> omega)); (first | omega | (simp <;> omega)))) | (refine g_load ?_; first | (refine st_val rfl (r_loadElem (hr2.mono S.below) rfl ?_ ?_) ?_; (first | omega | (simp <;> omega)); (first | omega | (simp <;> omega))) | (refine st_val rfl (r_loadElem1 (S.rdRow (D := (fInt .i64)) (i := 0) rfl) rfl ?_ ?_ rfl) ?_; (first | omega | (simp <;> omega)); (first | omega | (simp <;> omega))) | refine st_val rfl (r_loadVar (i := 1) S rfl rfl rfl) ?_) | (refine g_alloc ?_; refine st_valE rfl (r_alloc S) ?_; rintro _ w ⟨b, rfl, -, S'⟩; replace S := S'; clear S') | (refine g_store ?_; first | (refine st_skipE rfl (r_storeVar (i := 0) S rfl rfl rfl rfl (of_decide_eq_true rfl) (of_decide_eq_true rfl)) ?_; intro w S'; replace S := S'; clear S') | (refine st_skipE rfl (r_storeVar (i := 1) S rfl rfl rfl rfl (of_decide_eq_true rfl) (of_decide_eq_true rfl)) ?_; intro w S'; replace S := S'; clear S')) | (refine wl_split rfl rfl (fun h => ?_) (fun h => ?_) <;> (fail_if_success (have hh : true = true := h)) <;> (fail_if_success (have hh : false = false := h)) <;> (try simp only [decide_eq_true_eq, decide_eq_false_iff_not, Bool.not_eq_true', Bool.not_eq_false', Int.not_lt, Int.not_le] at h) <;> (try (exfalso; omega)) <;> (try (exfalso; omega; done))) | (refine WP_cond rfl (fun h => ?_) (fun h => ?_) <;> (fail_if_success (have hh : true = true := h)) <;> (fail_if_success (have hh : false = false := h)) <;> (try simp only [decide_eq_true_eq, decide_eq_false_iff_not, Bool.not_eq_true', Bool.not_eq_false', Int.not_lt, Int.not_le] at h) <;> (try (exfalso; omega)) <;> (try (exfalso; omega; done))))
          refine st_skipE rfl (r_storeElem (i := 0) (D := fInt .i64) S rfl rfl rfl rfl (fun c hc => by cases List.mem_singleton.1 hc; rfl) (by omega) (by omega)) ?_
          intro w S'; replace S := S'; clear S'
          repeat' (first | refine WP_region ?_ | refine wl_nil ?_ | refine then_normal ?_ | refine inB_normal ?_ | (refine g_move ?_; refine st_move rfl ?_) | (refine g_b_add ?_; (refine st_val rfl (r_addN rfl rfl ?_ ?_) ?_; (first | omega | (simp <;> omega)); (first | omega | (simp <;> omega)))))
          refine ⟨⟨_, ?_, j + 1, ⟨rfl, rfl, rfl, rfl, rfl, rfl, rfl, rfl, rfl, rfl, rfl, rfl, trivial⟩, ?_, by omega, by omega, rfl⟩⟩
          · omega
          · have S2 := S.keep [true, false]
            rw [← wF_put (x := nth (tab (wF l vs i j) l.length) i + 1) hi0 hi (by rw [hat, hst])]
            exact S2
        | false =>
          rw [hh, if_neg (by simp), Int.add_zero] at hst
          have hh2 : ¬ ((nth vs j).Kind = 1 ∧ (nth vs j).Item = nth l i) := of_decide_eq_false hh
          repeat' (first | refine WP_seq ?_ | refine WP_region ?_ | refine wl_nil ?_ | refine then_normal ?_ | refine inB_normal ?_ | refine WP_skip ?_ | refine WP_block ?_ | refine WP_condF rfl ?_ | (refine g_guard ?_; refine st_off rfl ?_) | (refine g_move ?_; refine st_move rfl ?_) | (refine g_pick ?_; first | refine st_pickT rfl rfl ?_ | refine st_pickF rfl rfl ?_) | (refine g_b_add ?_; (refine st_val rfl (r_addN rfl rfl ?_ ?_) ?_; (first | omega | (simp <;> omega)); (first | omega | (simp <;> omega)))) | (refine g_b_eql ?_; refine st_val rfl (r_eql rfl rfl) ?_) | (refine g_b_lss ?_; refine st_val rfl (r_lss rfl rfl) ?_) | (refine g_fieldAddr ?_; refine st_val rfl (r_fieldAddrL rfl) ?_) | (refine g_indexAddr ?_; (refine st_val rfl (r_indexAddr (hr2.mono S.below) rfl rfl ?_ ?_) ?_; (first | omega | (simp <;> omega)); (first | omega | (simp <;> omega)))) | (refine g_load ?_; first | (refine st_val rfl (r_loadElem (hr2.mono S.below) rfl ?_ ?_) ?_; (first | omega | (simp <;> omega)); (first | omega | (simp <;> omega))) | refine st_val rfl (r_loadVar (i := 1) S rfl rfl rfl) ?_) | (refine g_alloc ?_; refine st_valE rfl (r_alloc S) ?_; rintro _ w ⟨b, rfl, -, S'⟩; replace S := S'; clear S') | (refine g_store ?_; first | (refine st_skipE rfl (r_storeVar (i := 0) S rfl rfl rfl rfl (of_decide_eq_true rfl) (of_decide_eq_true rfl)) ?_; intro w S'; replace S := S'; clear S') | (refine st_skipE rfl (r_storeVar (i := 1) S rfl rfl rfl rfl (of_decide_eq_true rfl) (of_decide_eq_true rfl)) ?_; intro w S'; replace S := S'; clear S')) | (refine wl_split rfl rfl (fun h => ?_) (fun h => ?_) <;> (fail_if_success (have hh : true = true := h)) <;> (fail_if_success (have hh : false = false := h)) <;> (try simp only [decide_eq_true_eq, decide_eq_false_iff_not, Bool.not_eq_true', Bool.not_eq_false', Int.not_lt, Int.not_le] at h) <;> (try (exfalso; omega)) <;> (try (exfalso; omega; done))) | (refine WP_cond rfl (fun h => ?_) (fun h => ?_) <;> (fail_if_success (have hh : true = true := h)) <;> (fail_if_success (have hh : false = false := h)) <;> (try simp only [decide_eq_true_eq, decide_eq_false_iff_not, Bool.not_eq_true', Bool.not_eq_false', Int.not_lt, Int.not_le] at h) <;> (try (exfalso; omega)) <;> (try (exfalso; omega; done))))
          all_goals
            refine ⟨⟨_, ?_, j + 1, ⟨rfl, rfl, rfl, rfl, rfl, rfl, rfl, rfl, rfl, rfl, rfl, rfl, trivial⟩, ?_, by omega, by omega, rfl⟩⟩
            · omega
            · rw [wF_skip hst]
              exact S.keep [true, false]
      have hje : j = vs.length := by omega
      subst hje
      rw [wF_next] at S
      repeat' (first | refine WP_seq ?_ | refine WP_region ?_ | refine wl_nil ?_ | refine then_normal ?_ | refine inB_normal ?_ | refine then_exit ?_ | refine inB_here ?_ | refine WP_exit ?_ | (refine g_move ?_; refine st_move rfl ?_) | (refine g_b_add ?_; (refine st_val rfl (r_addN rfl rfl ?_ ?_) ?_; (first | omega | (simp <;> omega)); (first | omega | (simp <;> omega)))) | (refine g_b_lss ?_; refine st_val rfl (r_lss rfl rfl) ?_) | (refine WP_cond rfl (fun h => ?_) (fun h => ?_) <;> (fail_if_success (have hh : true = true := h)) <;> (fail_if_success (have hh : false = false := h)) <;> (try simp only [decide_eq_true_eq, decide_eq_false_iff_not, Bool.not_eq_true', Bool.not_eq_false', Int.not_lt, Int.not_le] at h) <;> (try (exfalso; omega))))
      refine ⟨⟨_, ?_, i + 1, ⟨rfl, rfl, ?_, rfl, rfl, rfl, rfl, trivial⟩, S, by omega, by omega, fun j p q => ?_, rfl⟩⟩
      · omega
      · show Value.int .i64 (nth l i) = Value.int .i64 (prevN l (i + 1))
        unfold prevN
        rw [if_neg (by omega), show i + 1 - 1 = i by omega]
      · by_cases e : j = i
        · subst e; exact hb
        · exact hall j p (by omega)
  have hil : i = l.length := by omega
  subst hil
  rw [wF_end] at S
  have hok : okRo t l vs = true := by unfold okRo; rw [ht, hn, hv, okIts_of hall]; rfl
  have hwl := @wts_len l vs
  have hwn := fun k (hk : k < l.length) => @wts_nth l vs ((k : Nat) : Int) (by omega) (by omega)
  have hmz := @maxTo_zero (wts l vs) l.length (by omega) fun k hk => by rw [hwn k hk]; exact cntV_le.1
  by_cases hz : sumW (wts l vs) = 0
  · have e : royI t l vs = (wts l vs, 0) := by unfold royI; rw [hok, if_pos rfl, if_pos hz]
    have hmx : maxTo (wts l vs) (wts l vs).length = 0 := by rw [hwl]; refine hmz.2 ?_; unfold sumW at hz; rw [hwl] at hz; exact hz
    repeat' (first | refine WP_seq ?_ | refine WP_region ?_ | refine wl_nil ?_ | refine then_normal ?_ | refine then_exit ?_ | refine inB_here ?_ | refine then_ret ?_ | refine WP_ret ?_ | refine WP_exit ?_ | (refine g_move ?_; refine st_move rfl ?_) | (refine g_assign ?_; refine st_assign rfl ?_) | (refine g_b_eql ?_; refine st_val rfl (r_eql rfl rfl) ?_) | (refine g_b_lss ?_; refine st_val rfl (r_lss rfl rfl) ?_) | (refine g_callV ?_; (refine st_callV rfl (r_call1 rfl rfl) (max_spec (S.rdRow (D := fInt .i64) (i := 0) rfl) (by omega) (by omega)) ?_; intro w hb; replace S := S.grow hb; clear hb)) | (refine WP_cond rfl (fun h => ?_) (fun h => ?_) <;> (fail_if_success (have hh : true = true := h)) <;> (fail_if_success (have hh : false = false := h)) <;> (try simp only [decide_eq_true_eq, decide_eq_false_iff_not, Bool.not_eq_true', Bool.not_eq_false', Int.not_lt, Int.not_le] at h) <;> (try (exfalso; omega)) <;> (try (exfalso; exact absurd hmx (by simpa using h); done))))
    exact end2 rfl rfl rfl ⟨_, rfl, S.below, _, by rw [e]; rfl, by rw [e]; exact S.row (i := 0) rfl⟩
  · have e : royI t l vs = shI t (wts l vs) := by unfold royI; rw [hok, if_pos rfl, if_neg hz]
    have hmx : ¬ maxTo (wts l vs) (wts l vs).length = 0 := by rw [hwl]; intro h; apply hz; unfold sumW; rw [hwl]; exact hmz.1 h
    rw [e]
    repeat' (first | refine WP_seq ?_ | refine WP_region ?_ | refine wl_nil ?_ | refine then_normal ?_ | refine then_exit ?_ | refine inB_here ?_ | refine WP_skip ?_ | refine WP_exit ?_ | (refine g_move ?_; refine st_move rfl ?_) | (refine g_b_eql ?_; refine st_val rfl (r_eql rfl rfl) ?_) | (refine g_b_lss ?_; refine st_val rfl (r_lss rfl rfl) ?_) | (refine g_callV ?_; (refine st_callV rfl (r_call1 rfl rfl) (max_spec (S.rdRow (D := fInt .i64) (i := 0) rfl) (by omega) (by omega)) ?_; intro w hb; replace S := S.grow hb; clear hb)) | (refine WP_cond rfl (fun h => ?_) (fun h => ?_) <;> (fail_if_success (have hh : true = true := h)) <;> (fail_if_success (have hh : false = false := h)) <;> (try simp only [decide_eq_true_eq, decide_eq_false_iff_not, Bool.not_eq_true', Bool.not_eq_false', Int.not_lt, Int.not_le] at h) <;> (try (exfalso; omega)) <;> (try (exfalso; exact absurd (by simpa using h) hmx; done))))
    refine st_callR rfl (r_call2 rfl rfl rfl) (shares_run (S.rdRow (D := fInt .i64) (i := 0) rfl) (by omega)) ?_
    rintro _ w hb ⟨vr, rfl, hrow⟩
    replace S := S.new hb hrow; clear hb hrow
    repeat' (first | refine wl_nil ?_ | refine then_normal ?_ | refine WP_ret ?_ | (refine g_assign ?_; refine st_assign rfl ?_) | (refine g_extract ?_; refine st_val rfl (r_extract rfl rfl) ?_))
    exact end2 rfl rfl rfl ⟨_, rfl, S.below, _, rfl, S.row (i := 1) rfl⟩
end Go.Proofs.YtijnbpnficcpmaaDoor
/- slices.Contains of verdicts; bill.Delivered; bill.Due. -/
namespace Go.Proofs.YtijnbpnficcpmaaDoor
open Go Go.Gx Go.RowKit
set_option linter.unusedVariables false
set_option linter.unusedSimpArgs false

theorem idxV_spec {x : GVerdict} {v : Value} {l : List GVerdict} {w : World} (hr : Rd fGVerdict.ty w v l) (hl : l.length ≤ 1000000000) :
    CallsV Tryd.prog 79 #[v, .agg x.enc.toArray] w (.int .i64 (idxF (fun y => decide (x = y)) l)) := by
  have S := St.start w
  obtain ⟨A, c, rfl⟩ := hr.len
  obtain ⟨w0, rfl⟩ : ∃ x, x = w := ⟨_, rfl⟩
  refine CallsV.mk ?_
  refine calls_enter Tryd.func79 rfl (by intro _ h; first | exact nomatch h.1 | (obtain ⟨_, h, _⟩ := h; exact nomatch h)) Tryd.ntmps79 rfl ?_
  repeat' (first | refine WP_seq ?_ | refine WP_region ?_ | refine wl_nil ?_ | refine then_normal ?_ | refine WP_block ?_ | (refine g_move ?_; refine st_move rfl ?_) | (refine g_assign ?_; refine st_assign rfl ?_) | (refine g_c_len ?_; refine st_val rfl (r_lenSlice rfl) ?_) | (refine g_box ?_; refine st_valE rfl (r_box S rfl) ?_; rintro _ w ⟨b, rfl, -, S'⟩; replace S := S'; clear S'))
  refine WP_loop (fun k σ w1 => ∃ i : Int, Has σ [(0, .slice A l.length c), (3, .pointer (some ⟨b, 0, none⟩)), (7, .int .i64 l.length), (8, .int .i64 i)] ∧ St w0 w1 [.var b 60 x.enc] ∧ 0 ≤ i ∧ i ≤ l.length ∧ k = l.length - i.toNat ∧ ∀ j, j < i.toNat → ∀ y, l[j]? = some y → decide (x = y) = false) l.length ⟨0, ⟨rfl, rfl, rfl, rfl, trivial⟩, S, by omega, by omega, by omega, fun j hj => by omega⟩ ?_
  clear S
  rintro k σ w1 ⟨i, hs, S, hi0, hi1, rfl, hnone⟩
  refine WP_has hs ?_
  by_cases hi : i < l.length
  · cases hx : decide (x = nth l i) with
    | true =>
      have hx' := of_decide_eq_true hx
      repeat' (first | refine WP_seq ?_ | refine WP_region ?_ | refine wl_nil ?_ | refine then_normal ?_ | refine then_ret ?_ | refine inB_ret ?_ | refine WP_ret ?_ | refine WP_skip ?_ | refine WP_block ?_ | refine WP_draw (by kernel_rfl) (by kernel_rfl) ?_ | (refine ql_nil ?_; intro w hb; replace S := S.grow hb; clear hb) | (refine g_move ?_; refine st_move rfl ?_) | (refine g_assign ?_; refine st_assign rfl ?_) | (refine g_b_lss ?_; refine st_val rfl (r_lss rfl rfl) ?_) | (refine gq_move ?_; refine q_move rfl ?_) | (refine gq_b_eql ?_; refine q_val rfl (fun w' hb => eql60 rfl rfl) ?_) | (refine gq_indexAddr ?_; (refine q_val rfl (fun w' hb => r_indexAddr (hr.mono (S.grow hb).below) rfl rfl ?_ ?_) ?_; (first | omega | (simp <;> omega)); (first | omega | (simp <;> omega)))) | (refine gq_load ?_; first | (refine q_val rfl (fun w' hb => r_loadElem (hr.mono (S.grow hb).below) rfl ?_ ?_) ?_; (first | omega | (simp <;> omega)); (first | omega | (simp <;> omega))) | refine q_val rfl (fun w' hb => r_loadVarA (i := 0) (S.grow hb) rfl rfl rfl rfl) ?_) | (refine WP_cond rfl (fun h => ?_) (fun h => ?_) <;> (fail_if_success (have hh : true = true := h)) <;> (fail_if_success (have hh : false = false := h)) <;> (try simp only [decide_eq_true_eq, decide_eq_false_iff_not, Bool.not_eq_true', Bool.not_eq_false', Int.not_lt, Int.not_le] at h) <;> (try (exfalso; omega)) <;> (try (exfalso; exact absurd hx' h; done))))
      refine end1 rfl rfl ⟨ri ?_, S.below⟩
      exact (idxF_hit hnone (nth_get (by omega) (by omega)) hx (by omega)).symm
    | false =>
      have hx' := of_decide_eq_false hx
      repeat' (first | refine WP_seq ?_ | refine WP_region ?_ | refine wl_nil ?_ | refine then_normal ?_ | refine inB_normal ?_ | refine WP_skip ?_ | refine WP_block ?_ | refine WP_draw (by kernel_rfl) (by kernel_rfl) ?_ | (refine ql_nil ?_; intro w hb; replace S := S.grow hb; clear hb) | (refine g_move ?_; refine st_move rfl ?_) | (refine g_assign ?_; refine st_assign rfl ?_) | (refine g_b_add ?_; (refine st_val rfl (r_addN rfl rfl ?_ ?_) ?_; (first | omega | (simp <;> omega)); (first | omega | (simp <;> omega)))) | (refine g_b_lss ?_; refine st_val rfl (r_lss rfl rfl) ?_) | (refine gq_move ?_; refine q_move rfl ?_) | (refine gq_b_eql ?_; refine q_val rfl (fun w' hb => eql60 rfl rfl) ?_) | (refine gq_indexAddr ?_; (refine q_val rfl (fun w' hb => r_indexAddr (hr.mono (S.grow hb).below) rfl rfl ?_ ?_) ?_; (first | omega | (simp <;> omega)); (first | omega | (simp <;> omega)))) | (refine gq_load ?_; first | (refine q_val rfl (fun w' hb => r_loadElem (hr.mono (S.grow hb).below) rfl ?_ ?_) ?_; (first | omega | (simp <;> omega)); (first | omega | (simp <;> omega))) | refine q_val rfl (fun w' hb => r_loadVarA (i := 0) (S.grow hb) rfl rfl rfl rfl) ?_) | (refine WP_cond rfl (fun h => ?_) (fun h => ?_) <;> (fail_if_success (have hh : true = true := h)) <;> (fail_if_success (have hh : false = false := h)) <;> (try simp only [decide_eq_true_eq, decide_eq_false_iff_not, Bool.not_eq_true', Bool.not_eq_false', Int.not_lt, Int.not_le] at h) <;> (try (exfalso; omega)) <;> (try (exfalso; exact absurd h hx'; done))))
      refine ⟨⟨_, ?_, i + 1, ⟨rfl, rfl, rfl, rfl, trivial⟩, S, by omega, by omega, rfl, fun j hj y hy => ?_⟩⟩
      · omega
      · by_cases e : j = i.toNat
        · subst e; rw [nth_get (by omega) (by omega)] at hy; cases hy; exact hx
        · exact hnone j (by omega) y hy
  · repeat' (first | refine WP_seq ?_ | refine WP_region ?_ | refine wl_nil ?_ | refine then_normal ?_ | refine then_exit ?_ | refine inB_here ?_ | refine WP_ret ?_ | refine WP_exit ?_ | (refine g_assign ?_; refine st_assign rfl ?_) | (refine g_b_lss ?_; refine st_val rfl (r_lss rfl rfl) ?_) | (refine WP_cond rfl (fun h => ?_) (fun h => ?_) <;> (fail_if_success (have hh : true = true := h)) <;> (fail_if_success (have hh : false = false := h)) <;> (try simp only [decide_eq_true_eq, decide_eq_false_iff_not, Bool.not_eq_true', Bool.not_eq_false', Int.not_lt, Int.not_le] at h) <;> (try (exfalso; omega))))
    refine end1 rfl rfl ⟨ri ?_, S.below⟩
    exact (idxF_none fun y hy => by
      obtain ⟨j, hj⟩ := List.getElem?_of_mem hy
      exact hnone j (by have := List.getElem?_eq_some_iff.1 hj; obtain ⟨hlt, _⟩ := this; omega) y hj).symm
theorem conV_spec {x : GVerdict} {b : Bool} {v : Value} {l : List GVerdict} {w : World} (hb : l.any (fun y => decide (x = y)) = b) (hr : Rd fGVerdict.ty w v l) (hl : l.length ≤ 1000000000) :
    CallsV Tryd.prog 48 #[v, .agg x.enc.toArray] w (.bool b) := by
  have S := St.start w
  refine CallsV.mk ?_
  refine calls_enter Tryd.func48 rfl (by intro _ h; first | exact nomatch h.1 | (obtain ⟨_, h, _⟩ := h; exact nomatch h)) Tryd.ntmps48 rfl ?_
  repeat' (first | refine WP_seq ?_ | refine WP_region ?_ | refine wl_nil ?_ | refine then_normal ?_ | refine WP_ret ?_ | (refine g_move ?_; refine st_move rfl ?_) | (refine g_assign ?_; refine st_assign rfl ?_) | (refine g_b_geq ?_; refine st_val rfl (r_geq rfl rfl) ?_) | (refine g_load ?_; refine st_val rfl (r_loadVarA (i := 0) S rfl rfl rfl rfl) ?_) | (refine g_callV ?_; (refine st_callV rfl (r_call2 rfl rfl rfl) (idxV_spec (x := x) (hr.mono S.below) hl) ?_; intro w hb; replace S := S.grow hb; clear hb)) | (refine g_box ?_; refine st_valE rfl (r_box S rfl) ?_; rintro _ w ⟨b, rfl, -, S'⟩; replace S := S'; clear S'))
  all_goals (refine end1 rfl rfl ⟨rb ?_, S.below⟩; subst hb; rw [idxF_any])

/-! ### Delivered -/
abbrev RowDl (w0 : World) (r : List GSpot × Int) (v : Value) (w' : World) : Prop := ∃ vo, v = .tuple #[vo, .int .i64 r.2] ∧ NewRow fGSpot 63 w0 w' vo r.1
def heardB (vs : List GVerdict) (d item : Int) : Bool := ((vs.take (min (d + 10) vs.length).toNat).drop (max d 0).toNat).any (fun y => decide ((⟨1, item⟩ : GVerdict) = y))
def dlv (l : List GContract) (vs : List GVerdict) (from_ : Int) (s : GSpot) : Bool :=
  match cFind l s.Contract with
  | none => false
  | some c => heardB vs (s.At - from_) c.Item
def okDl (l : List GContract) (sp : List GSpot) (vs : List GVerdict) (from_ : Int) : Bool := validC l && (validP sp && (validV vs && inR from_ 0 10000000))
def delI (l : List GContract) (sp : List GSpot) (vs : List GVerdict) (from_ : Int) : List GSpot × Int := if okDl l sp vs from_ then (sp.filter (dlv l vs from_), 0) else ([], 390)
theorem delI_no {l : List GContract} {sp : List GSpot} {vs : List GVerdict} {from_ : Int} (h : okDl l sp vs from_ = false) : delI l sp vs from_ = ([], 390) := by unfold delI; rw [h]; rfl
abbrev iM (l : List GContract) : List (Int × Int) := l.map fun c => (c.ID, c.Item)
theorem mGet_iM {l : List GContract} {id : Int} : mGet id (iM l) = (cFind l id).map (·.Item) := by
  unfold cFind
  induction l with
  | nil => rfl
  | cons a l ih =>
    simp only [iM, List.map_cons, mGet, List.find?_cons]
    by_cases h : id = a.ID
    · rw [if_pos h, decide_eq_true h.symm]; rfl
    · rw [if_neg h, decide_eq_false (fun e => h e.symm)]; exact ih
theorem take_iM {l : List GContract} (h : validC l = true) {i : Int} (h0 : 0 ≤ i) (hi : i < l.length) : mPut (nth l i).ID (nth l i).Item (iM (l.take i.toNat)) = iM (l.take (i + 1).toNat) := by
  have hn := take_none h h0 hi
  rw [mGet_map] at hn
  rw [mPut_new (by rw [mGet_iM]; unfold cFind; rw [hn]; rfl), show (i + 1).toNat = i.toNat + 1 by omega, List.take_add_one, nth_get h0 hi]
  unfold iM
  rw [List.map_append]; rfl
theorem filter_take {p : GSpot → Bool} {sp : List GSpot} {i : Int} (h0 : 0 ≤ i) (hi : i < sp.length) : (sp.take (i + 1).toNat).filter p = (sp.take i.toNat).filter p ++ (if p (nth sp i) = true then [nth sp i] else []) := by
  rw [show (i + 1).toNat = i.toNat + 1 by omega, List.take_add_one, nth_get h0 hi, Option.toList_some, List.filter_append]
  congr 1
  cases h : p (nth sp i) <;> simp [List.filter_cons, h]
theorem heardB_no {vs : List GVerdict} {d item : Int} (h : ¬ max d 0 < min (d + 10) vs.length) : heardB vs d item = false := by
  unfold heardB
  rw [List.drop_eq_nil_of_le (by rw [List.length_take]; omega)]; rfl
set_option maxHeartbeats 1000000 in
theorem del_run {l : List GContract} {sp : List GSpot} {vs : List GVerdict} {from_ : Int} {v1 v2 v3 : Value} {w0 : World} (hr1 : Rd fGContract.ty w0 v1 l) (hr2 : Rd fGSpot.ty w0 v2 sp) (hr3 : Rd fGVerdict.ty w0 v3 vs) (hl1 : l.length ≤ 1000000000) (hl2 : sp.length ≤ 1000000000) (hl3 : vs.length ≤ 1000000000) :
    CallsR Tryd.prog 16 #[v1, v2, v3, .int .i64 from_] w0 (RowDl w0 (delI l sp vs from_)) := by
  have S := St.start w0
  obtain ⟨A, c, rfl⟩ := hr1.len
  obtain ⟨A2, c2, rfl⟩ := hr2.len
  obtain ⟨A3, c3, rfl⟩ := hr3.len
  refine CallsR.mk ?_
  refine calls_enter Tryd.func16 rfl (by intro _ h; first | exact nomatch h.1 | (obtain ⟨_, h, _⟩ := h; exact nomatch h)) Tryd.ntmps16 rfl ?_
  cases h1 : validC l with
  | false =>
    have e := delI_no (sp := sp) (vs := vs) (from_ := from_) (l := l) (by unfold okDl; rw [h1]; rfl)
    repeat' (first | refine WP_seq ?_ | refine WP_region ?_ | refine wl_nil ?_ | refine then_normal ?_ | refine then_ret ?_ | refine WP_ret ?_ | refine WP_condT rfl ?_ | (refine g_guard ?_; refine st_off rfl ?_) | (refine g_move ?_; refine st_move rfl ?_) | (refine g_assign ?_; refine st_assign rfl ?_) | (refine g_pick ?_; refine st_pickT rfl rfl ?_) | (refine g_un ?_; refine st_val rfl (r_not rfl) ?_) | (refine g_callV ?_; (refine st_callV rfl (r_call1 rfl rfl) (valid_is h1 (hr1.mono S.below) hl1) ?_; intro w hb; replace S := S.grow hb; clear hb)))
    exact end2 rfl rfl rfl ⟨_, rfl, S.below, _, by rw [e]; rfl, by rw [e]; exact NewRow.nil _ _ _ _⟩
  | true =>
  cases h2 : validP sp with
  | false =>
    have e := delI_no (sp := sp) (vs := vs) (from_ := from_) (l := l) (by unfold okDl; rw [h2]; simp)
    repeat' (first | refine WP_seq ?_ | refine WP_region ?_ | refine wl_nil ?_ | refine then_normal ?_ | refine then_ret ?_ | refine WP_ret ?_ | refine WP_condT rfl ?_ | (refine g_guard ?_; refine st_off rfl ?_) | (refine g_move ?_; refine st_move rfl ?_) | (refine g_assign ?_; refine st_assign rfl ?_) | (refine g_pick ?_; first | refine st_pickT rfl rfl ?_ | refine st_pickF rfl rfl ?_) | (refine g_un ?_; refine st_val rfl (r_not rfl) ?_) | (refine g_callV ?_; first | (refine st_callV rfl (r_call1 rfl rfl) (valid_is h1 (hr1.mono S.below) hl1) ?_; intro w hb; replace S := S.grow hb; clear hb) | (refine st_callV rfl (r_call1 rfl rfl) (validSpots_is h2 (hr2.mono S.below) hl2) ?_; intro w hb; replace S := S.grow hb; clear hb)))
    exact end2 rfl rfl rfl ⟨_, rfl, S.below, _, by rw [e]; rfl, by rw [e]; exact NewRow.nil _ _ _ _⟩
  | true =>
  cases h3 : validV vs with
  | false =>
    have e := delI_no (sp := sp) (vs := vs) (from_ := from_) (l := l) (by unfold okDl; rw [h3]; simp)
    repeat' (first | refine WP_seq ?_ | refine WP_region ?_ | refine wl_nil ?_ | refine then_normal ?_ | refine then_ret ?_ | refine WP_ret ?_ | refine WP_condT rfl ?_ | (refine g_guard ?_; refine st_off rfl ?_) | (refine g_move ?_; refine st_move rfl ?_) | (refine g_assign ?_; refine st_assign rfl ?_) | (refine g_pick ?_; first | refine st_pickT rfl rfl ?_ | refine st_pickF rfl rfl ?_) | (refine g_un ?_; refine st_val rfl (r_not rfl) ?_) | (refine g_callV ?_; first | (refine st_callV rfl (r_call1 rfl rfl) (valid_is h1 (hr1.mono S.below) hl1) ?_; intro w hb; replace S := S.grow hb; clear hb) | (refine st_callV rfl (r_call1 rfl rfl) (validSpots_is h2 (hr2.mono S.below) hl2) ?_; intro w hb; replace S := S.grow hb; clear hb) | (refine st_callV rfl (r_call1 rfl rfl) (validV_is h3 (hr3.mono S.below) hl3) ?_; intro w hb; replace S := S.grow hb; clear hb)))
    exact end2 rfl rfl rfl ⟨_, rfl, S.below, _, by rw [e]; rfl, by rw [e]; exact NewRow.nil _ _ _ _⟩
  | true =>
  cases h4 : inR from_ 0 10000000 with
  | false =>
    have e := delI_no (sp := sp) (vs := vs) (from_ := from_) (l := l) (by unfold okDl; rw [h4]; simp)
    repeat' (first | refine WP_seq ?_ | refine WP_region ?_ | refine wl_nil ?_ | refine then_normal ?_ | refine then_ret ?_ | refine WP_ret ?_ | refine WP_condT rfl ?_ | (refine g_move ?_; refine st_move rfl ?_) | (refine g_assign ?_; refine st_assign rfl ?_) | (refine g_pick ?_; refine st_pickF rfl rfl ?_) | (refine g_un ?_; refine st_val rfl (r_not rfl) ?_) | (refine g_callV ?_; first | (refine st_callV rfl (r_call1 rfl rfl) (valid_is h1 (hr1.mono S.below) hl1) ?_; intro w hb; replace S := S.grow hb; clear hb) | (refine st_callV rfl (r_call1 rfl rfl) (validSpots_is h2 (hr2.mono S.below) hl2) ?_; intro w hb; replace S := S.grow hb; clear hb) | (refine st_callV rfl (r_call1 rfl rfl) (validV_is h3 (hr3.mono S.below) hl3) ?_; intro w hb; replace S := S.grow hb; clear hb) | (refine st_callV rfl (r_call3 rfl rfl rfl rfl) (wi_is h4) ?_; intro w hb; replace S := S.grow hb; clear hb)))
    exact end2 rfl rfl rfl ⟨_, rfl, S.below, _, by rw [e]; rfl, by rw [e]; exact NewRow.nil _ _ _ _⟩
  | true =>
  have e : delI l sp vs from_ = (sp.filter (dlv l vs from_), 0) := by unfold delI okDl; rw [h1, h2, h3, h4]; rfl
  have hfr : 0 ≤ from_ ∧ from_ ≤ 10000000 := of_decide_eq_true h4
  have hspa := okP_sp (l := l) (sp := sp) (by unfold okI; rw [h1, h2]; rfl)
  have hvl := validV_len h3
  repeat' (first | refine WP_seq ?_ | refine WP_region ?_ | refine wl_nil ?_ | refine then_normal ?_ | refine WP_skip ?_ | refine WP_condF rfl ?_ | (refine g_move ?_; refine st_move rfl ?_) | (refine g_assign ?_; refine st_assign rfl ?_) | (refine g_pick ?_; refine st_pickF rfl rfl ?_) | (refine g_un ?_; refine st_val rfl (r_not rfl) ?_) | (refine g_callV ?_; first | (refine st_callV rfl (r_call1 rfl rfl) (valid_is h1 (hr1.mono S.below) hl1) ?_; intro w hb; replace S := S.grow hb; clear hb) | (refine st_callV rfl (r_call1 rfl rfl) (validSpots_is h2 (hr2.mono S.below) hl2) ?_; intro w hb; replace S := S.grow hb; clear hb) | (refine st_callV rfl (r_call1 rfl rfl) (validV_is h3 (hr3.mono S.below) hl3) ?_; intro w hb; replace S := S.grow hb; clear hb) | (refine st_callV rfl (r_call3 rfl rfl rfl rfl) (wi_is h4) ?_; intro w hb; replace S := S.grow hb; clear hb)))
  refine st_valE rfl (r_makeMap (eK := eI) (eV := eI) S) ?_
  rintro _ w ⟨bm, rfl, -, S'⟩; replace S := S'; clear S'
  repeat' (first | refine WP_seq ?_ | refine WP_region ?_ | refine wl_nil ?_ | refine then_normal ?_ | refine WP_block ?_ | (refine g_move ?_; refine st_move rfl ?_) | (refine g_assign ?_; refine st_assign rfl ?_) | (refine g_c_len ?_; refine st_val rfl (r_lenSlice rfl) ?_))
  refine WP_loop (fun m σ w1 => ∃ (i : Int), Has σ [(1, .slice A2 sp.length c2), (2, .slice A3 vs.length c3), (3, .int .i64 from_), (10, .map (some bm)), (39, .slice A l.length c), (40, .int .i64 l.length), (41, .int .i64 i)] ∧ St w0 w1 [mapOb eI eI bm (iM (l.take i.toNat))] ∧ 0 ≤ i ∧ i ≤ l.length ∧ m = l.length - i.toNat) l.length ⟨0, ⟨rfl, rfl, rfl, rfl, rfl, rfl, rfl, trivial⟩, S, by omega, by omega, by omega⟩ ?_
  clear S
  rintro m σ w1 ⟨i, hs, S, hi0, hi1, rfl⟩
  refine WP_has hs ?_
  by_cases hi : i < l.length
  · repeat' (first | refine WP_seq ?_ | refine WP_region ?_ | refine wl_nil ?_ | refine then_normal ?_ | refine inB_normal ?_ | refine WP_skip ?_ | refine WP_block ?_ | (refine g_move ?_; refine st_move rfl ?_) | (refine g_b_add ?_; (refine st_val rfl (r_addN rfl rfl ?_ ?_) ?_; (first | omega | (simp <;> omega)); (first | omega | (simp <;> omega)))) | (refine g_b_lss ?_; refine st_val rfl (r_lss rfl rfl) ?_) | (refine g_fieldAddr ?_; refine st_val rfl (r_fieldAddrL rfl) ?_) | (refine g_indexAddr ?_; (refine st_val rfl (r_indexAddr (hr1.mono S.below) rfl rfl ?_ ?_) ?_; (first | omega | (simp <;> omega)); (first | omega | (simp <;> omega)))) | (refine g_load ?_; first | (refine st_val rfl (r_loadElem (hr1.mono S.below) rfl ?_ ?_) ?_; (first | omega | (simp <;> omega)); (first | omega | (simp <;> omega))) | refine st_val rfl (r_loadVar (i := 1) S rfl rfl rfl) ?_) | (refine g_alloc ?_; refine st_valE rfl (r_alloc S) ?_; rintro _ w ⟨b, rfl, -, S'⟩; replace S := S'; clear S') | (refine g_store ?_; first | (refine st_skipE rfl (r_storeVar (i := 0) S rfl rfl rfl rfl (of_decide_eq_true rfl) (of_decide_eq_true rfl)) ?_; intro w S'; replace S := S'; clear S') | (refine st_skipE rfl (r_storeVar (i := 1) S rfl rfl rfl rfl (of_decide_eq_true rfl) (of_decide_eq_true rfl)) ?_; intro w S'; replace S := S'; clear S')) | (refine st_skipE rfl (r_mapUpdate (i := 0) (eK := eI) (eV := eI) (k := (nth l i).ID) (v := (nth l i).Item) S rfl rfl rfl rfl) ?_; intro w S'; replace S := S'; clear S') | (refine WP_cond rfl (fun h => ?_) (fun h => ?_) <;> (fail_if_success (have hh : true = true := h)) <;> (fail_if_success (have hh : false = false := h)) <;> (try simp only [decide_eq_true_eq, decide_eq_false_iff_not, Bool.not_eq_true', Bool.not_eq_false', Int.not_lt, Int.not_le] at h) <;> (try (exfalso; omega))))
    rw [take_iM h1 hi0 hi] at S
    refine ⟨⟨_, ?_, i + 1, ⟨rfl, rfl, rfl, rfl, rfl, rfl, rfl, trivial⟩, S.keep [true, false], by omega, by omega, rfl⟩⟩
    omega
  have hil : i.toNat = l.length := by omega
  rw [hil, List.take_length] at S
  repeat' (first | refine WP_seq ?_ | refine WP_region ?_ | refine wl_nil ?_ | refine then_normal ?_ | refine then_exit ?_ | refine inB_here ?_ | refine WP_exit ?_ | refine WP_block ?_ | (refine g_move ?_; refine st_move rfl ?_) | (refine g_assign ?_; refine st_assign rfl ?_) | (refine g_b_lss ?_; refine st_val rfl (r_lss rfl rfl) ?_) | (refine g_c_len ?_; refine st_val rfl (r_lenSlice rfl) ?_) | (refine WP_cond rfl (fun h => ?_) (fun h => ?_) <;> (fail_if_success (have hh : true = true := h)) <;> (fail_if_success (have hh : false = false := h)) <;> (try simp only [decide_eq_true_eq, decide_eq_false_iff_not, Bool.not_eq_true', Bool.not_eq_false', Int.not_lt, Int.not_le] at h) <;> (try (exfalso; omega))))
  replace S := S.nilRow fGSpot 63
  have hspl := validP_len h2
  refine WP_loop (fun m σ w1 => ∃ (i : Int) (vo : Value), Has σ [(2, .slice A3 vs.length c3), (3, .int .i64 from_), (10, .map (some bm)), (13, vo), (51, .slice A2 sp.length c2), (52, .int .i64 sp.length), (53, .int .i64 i)] ∧ St w0 w1 [mapOb eI eI bm (iM l), rowOb fGSpot 63 vo ((sp.take i.toNat).filter (dlv l vs from_))] ∧ 0 ≤ i ∧ i ≤ sp.length ∧ m = sp.length - i.toNat) sp.length ⟨0, .slice none 0 0, ⟨rfl, rfl, rfl, rfl, rfl, rfl, rfl, trivial⟩, S, by omega, by omega, by omega⟩ ?_
  clear S hs
  rintro m σ w1 ⟨i, vo, hs, S, hi0, hi1, rfl⟩
  refine WP_has hs ?_
  by_cases hi : i < sp.length
  · have hft := @filter_take (dlv l vs from_) sp i hi0 hi
    have hsa := hspa _ (nth_mem hi0 hi)
    have hm := @mGet_iM l (nth sp i).Contract
    have hfl := List.length_filter_le (dlv l vs from_) (sp.take i.toNat)
    rw [List.length_take] at hfl
    cases hc : cFind l (nth sp i).Contract with
    | none =>
      rw [hc] at hm
      have hd : dlv l vs from_ (nth sp i) = false := by unfold dlv; rw [hc]
      rw [hd] at hft
      repeat' (first | refine WP_seq ?_ | refine WP_region ?_ | refine wl_nil ?_ | refine then_normal ?_ | refine inB_normal ?_ | refine WP_skip ?_ | refine WP_block ?_ | refine WP_condF rfl ?_ | refine WP_draw (by kernel_rfl) (by kernel_rfl) ?_ | (refine ql_nil ?_; intro w hb; replace S := S.grow hb; clear hb) | (refine g_guard ?_; refine st_off rfl ?_) | (refine g_move ?_; refine st_move rfl ?_) | (refine g_assign ?_; refine st_assign rfl ?_) | (refine g_pick ?_; refine st_pickF rfl rfl ?_) | (refine g_b_add ?_; (refine st_val rfl (r_addN rfl rfl ?_ ?_) ?_; (first | omega | (simp <;> omega)); (first | omega | (simp <;> omega)))) | (refine g_b_lss ?_; refine st_val rfl (r_lss rfl rfl) ?_) | (refine g_extract ?_; refine st_val rfl (r_extract rfl rfl) ?_) | (refine g_fieldAddr ?_; refine st_val rfl (r_fieldAddrL rfl) ?_) | (refine g_indexAddr ?_; (refine st_val rfl (r_indexAddr (hr2.mono S.below) rfl rfl ?_ ?_) ?_; (first | omega | (simp <;> omega)); (first | omega | (simp <;> omega)))) | (refine g_load ?_; first | (refine st_val rfl (r_loadElem (hr2.mono S.below) rfl ?_ ?_) ?_; (first | omega | (simp <;> omega)); (first | omega | (simp <;> omega))) | refine st_val rfl (r_loadVar (i := 2) S rfl rfl rfl) ?_) | (refine gq_move ?_; refine q_move rfl ?_) | (refine gq_assign ?_; refine q_assign rfl ?_) | (refine gq_b_add ?_; (refine q_val rfl (fun w' hb => r_addN rfl rfl ?_ ?_) ?_; (first | omega | (simp <;> omega)); (first | omega | (simp <;> omega)))) | (refine gq_b_sub ?_; (refine q_val rfl (fun w' hb => r_subN rfl rfl ?_ ?_) ?_; (first | omega | (simp <;> omega)); (first | omega | (simp <;> omega)))) | (refine gq_c_max ?_; refine q_val rfl (fun w' hb => r_max2 rfl rfl) ?_) | (refine gq_c_min ?_; refine q_val rfl (fun w' hb => r_min2 rfl rfl) ?_) | (refine gq_c_len ?_; refine q_val rfl (fun w' hb => r_lenSlice rfl) ?_) | (refine gq_fieldAddr ?_; refine q_val rfl (fun w' hb => r_fieldAddrL rfl) ?_) | (refine gq_load ?_; refine q_val rfl (fun w' hb => r_loadVar (i := 2) (S.grow hb) rfl rfl rfl) ?_) | (refine g_alloc ?_; refine st_valE rfl (r_alloc S) ?_; rintro _ w ⟨b, rfl, -, S'⟩; replace S := S'; clear S') | (refine g_store ?_; first | (refine st_skipE rfl (r_storeVar (i := 0) S rfl rfl rfl rfl (of_decide_eq_true rfl) (of_decide_eq_true rfl)) ?_; intro w S'; replace S := S'; clear S') | (refine st_skipE rfl (r_storeVar (i := 1) S rfl rfl rfl rfl (of_decide_eq_true rfl) (of_decide_eq_true rfl)) ?_; intro w S'; replace S := S'; clear S') | (refine st_skipE rfl (r_storeVar (i := 2) S rfl rfl rfl rfl (of_decide_eq_true rfl) (of_decide_eq_true rfl)) ?_; intro w S'; replace S := S'; clear S')) | (refine st_val rfl (r_lookupN (k := (nth sp i).Contract) (eK := eI) (eV := eI) (S.mapAt (i := 0) rfl) hm rfl rfl) ?_) | (refine WP_cond rfl (fun h => ?_) (fun h => ?_) <;> (fail_if_success (have hh : true = true := h)) <;> (fail_if_success (have hh : false = false := h)) <;> (try simp only [decide_eq_true_eq, decide_eq_false_iff_not, Bool.not_eq_true', Bool.not_eq_false', Int.not_lt, Int.not_le] at h) <;> (try (exfalso; omega))))
      all_goals
        refine ⟨⟨_, ?_, i + 1, vo, ⟨rfl, rfl, rfl, rfl, rfl, rfl, rfl, trivial⟩, ?_, by omega, by omega, rfl⟩⟩
        · omega
        · rw [hft, if_neg (by simp), List.append_nil]; exact S.keep [true, true, false]
    | some c' =>
      rw [hc] at hm
      have hd : dlv l vs from_ (nth sp i) = heardB vs ((nth sp i).At - from_) c'.Item := by unfold dlv; rw [hc]
      rw [hd] at hft
      by_cases hlt : max ((nth sp i).At - from_) 0 < min ((nth sp i).At - from_ + 10) vs.length
      · have hcutl : ((vs.take (min ((nth sp i).At - from_ + 10) vs.length).toNat).drop (max ((nth sp i).At - from_) 0).toNat).length ≤ 1000000000 := by rw [List.length_drop, List.length_take]; omega
        cases hb : heardB vs ((nth sp i).At - from_) c'.Item with
        | false =>
          rw [hb] at hft
          unfold heardB at hb
          repeat' (first | refine WP_seq ?_ | refine WP_region ?_ | refine wl_nil ?_ | refine then_normal ?_ | refine inB_normal ?_ | refine WP_skip ?_ | refine WP_block ?_ | refine WP_condF rfl ?_ | refine WP_draw (by kernel_rfl) (by kernel_rfl) ?_ | (refine ql_nil ?_; intro w hb; replace S := S.grow hb; clear hb) | (refine g_move ?_; refine st_move rfl ?_) | (refine g_assign ?_; refine st_assign rfl ?_) | (refine g_pick ?_; refine st_pickT rfl rfl ?_) | (refine g_b_add ?_; (refine st_val rfl (r_addN rfl rfl ?_ ?_) ?_; (first | omega | (simp <;> omega)); (first | omega | (simp <;> omega)))) | (refine g_b_lss ?_; refine st_val rfl (r_lss rfl rfl) ?_) | (refine g_build ?_; refine st_val rfl (bd60_0_1 rfl rfl) ?_) | (refine g_extract ?_; refine st_val rfl (r_extract rfl rfl) ?_) | (refine g_fieldAddr ?_; refine st_val rfl (r_fieldAddrL rfl) ?_) | (refine g_indexAddr ?_; (refine st_val rfl (r_indexAddr (hr2.mono S.below) rfl rfl ?_ ?_) ?_; (first | omega | (simp <;> omega)); (first | omega | (simp <;> omega)))) | (refine g_load ?_; first | (refine st_val rfl (r_loadElem (hr2.mono S.below) rfl ?_ ?_) ?_; (first | omega | (simp <;> omega)); (first | omega | (simp <;> omega))) | refine st_val rfl (r_loadVar (i := 2) S rfl rfl rfl) ?_) | (refine g_callV ?_; (refine st_callV rfl (r_call2 rfl rfl rfl) (conV_spec (x := ⟨1, c'.Item⟩) hb ((hr3.mono S.below).cut (by omega) (by omega)) hcutl) ?_; intro w hb; replace S := S.grow hb; clear hb)) | (refine gq_move ?_; refine q_move rfl ?_) | (refine gq_assign ?_; refine q_assign rfl ?_) | (refine gq_b_add ?_; (refine q_val rfl (fun w' hb => r_addN rfl rfl ?_ ?_) ?_; (first | omega | (simp <;> omega)); (first | omega | (simp <;> omega)))) | (refine gq_b_sub ?_; (refine q_val rfl (fun w' hb => r_subN rfl rfl ?_ ?_) ?_; (first | omega | (simp <;> omega)); (first | omega | (simp <;> omega)))) | (refine gq_c_max ?_; refine q_val rfl (fun w' hb => r_max2 rfl rfl) ?_) | (refine gq_c_min ?_; refine q_val rfl (fun w' hb => r_min2 rfl rfl) ?_) | (refine gq_c_len ?_; refine q_val rfl (fun w' hb => r_lenSlice rfl) ?_) | (refine gq_fieldAddr ?_; refine q_val rfl (fun w' hb => r_fieldAddrL rfl) ?_) | (refine gq_load ?_; refine q_val rfl (fun w' hb => r_loadVar (i := 2) (S.grow hb) rfl rfl rfl) ?_) | (refine g_alloc ?_; refine st_valE rfl (r_alloc S) ?_; rintro _ w ⟨b, rfl, -, S'⟩; replace S := S'; clear S') | (refine g_store ?_; first | (refine st_skipE rfl (r_storeVar (i := 0) S rfl rfl rfl rfl (of_decide_eq_true rfl) (of_decide_eq_true rfl)) ?_; intro w S'; replace S := S'; clear S') | (refine st_skipE rfl (r_storeVar (i := 1) S rfl rfl rfl rfl (of_decide_eq_true rfl) (of_decide_eq_true rfl)) ?_; intro w S'; replace S := S'; clear S') | (refine st_skipE rfl (r_storeVar (i := 2) S rfl rfl rfl rfl (of_decide_eq_true rfl) (of_decide_eq_true rfl)) ?_; intro w S'; replace S := S'; clear S')) | (refine st_val rfl (r_lookupS (k := (nth sp i).Contract) (eK := eI) (eV := eI) (S.mapAt (i := 0) rfl) hm rfl rfl) ?_) | (refine st_val rfl (r_slice (hr3.mono S.below) rfl rfl rfl (by omega) (by omega) (by omega)) ?_) | (refine wl_split rfl rfl (fun h => ?_) (fun h => ?_) <;> (fail_if_success (have hh : true = true := h)) <;> (fail_if_success (have hh : false = false := h)) <;> (try simp only [decide_eq_true_eq, decide_eq_false_iff_not, Bool.not_eq_true', Bool.not_eq_false', Int.not_lt, Int.not_le] at h) <;> (try (exfalso; omega))) | (refine WP_cond rfl (fun h => ?_) (fun h => ?_) <;> (fail_if_success (have hh : true = true := h)) <;> (fail_if_success (have hh : false = false := h)) <;> (try simp only [decide_eq_true_eq, decide_eq_false_iff_not, Bool.not_eq_true', Bool.not_eq_false', Int.not_lt, Int.not_le] at h) <;> (try (exfalso; omega))))
          all_goals
            refine ⟨⟨_, ?_, i + 1, vo, ⟨rfl, rfl, rfl, rfl, rfl, rfl, rfl, trivial⟩, ?_, by omega, by omega, rfl⟩⟩
            · omega
            · rw [hft, if_neg (by simp), List.append_nil]; exact S.keep [true, true, false]
        | true =>
          rw [hb] at hft
          unfold heardB at hb
          repeat' (first | refine WP_seq ?_ | refine WP_region ?_ | refine wl_nil ?_ | refine then_normal ?_ | refine WP_skip ?_ | refine WP_block ?_ | refine WP_condT rfl ?_ | refine WP_draw (by kernel_rfl) (by kernel_rfl) ?_ | (refine ql_nil ?_; intro w hb; replace S := S.grow hb; clear hb) | (refine g_move ?_; refine st_move rfl ?_) | (refine g_assign ?_; refine st_assign rfl ?_) | (refine g_pick ?_; refine st_pickT rfl rfl ?_) | (refine g_b_lss ?_; refine st_val rfl (r_lss rfl rfl) ?_) | (refine g_build ?_; refine st_val rfl (bd60_0_1 rfl rfl) ?_) | (refine g_extract ?_; refine st_val rfl (r_extract rfl rfl) ?_) | (refine g_fieldAddr ?_; refine st_val rfl (r_fieldAddrL rfl) ?_) | (refine g_indexAddr ?_; (refine st_val rfl (r_indexAddr (hr2.mono S.below) rfl rfl ?_ ?_) ?_; (first | omega | (simp <;> omega)); (first | omega | (simp <;> omega)))) | (refine g_load ?_; first | (refine st_val rfl (r_loadElem (hr2.mono S.below) rfl ?_ ?_) ?_; (first | omega | (simp <;> omega)); (first | omega | (simp <;> omega))) | refine st_val rfl (r_loadVar (i := 2) S rfl rfl rfl) ?_ | refine st_val rfl (r_loadVarA (i := 2) S rfl rfl rfl rfl) ?_) | (refine g_callV ?_; (refine st_callV rfl (r_call2 rfl rfl rfl) (conV_spec (x := ⟨1, c'.Item⟩) hb ((hr3.mono S.below).cut (by omega) (by omega)) hcutl) ?_; intro w hb; replace S := S.grow hb; clear hb)) | (refine gq_move ?_; refine q_move rfl ?_) | (refine gq_assign ?_; refine q_assign rfl ?_) | (refine gq_b_add ?_; (refine q_val rfl (fun w' hb => r_addN rfl rfl ?_ ?_) ?_; (first | omega | (simp <;> omega)); (first | omega | (simp <;> omega)))) | (refine gq_b_sub ?_; (refine q_val rfl (fun w' hb => r_subN rfl rfl ?_ ?_) ?_; (first | omega | (simp <;> omega)); (first | omega | (simp <;> omega)))) | (refine gq_c_max ?_; refine q_val rfl (fun w' hb => r_max2 rfl rfl) ?_) | (refine gq_c_min ?_; refine q_val rfl (fun w' hb => r_min2 rfl rfl) ?_) | (refine gq_c_len ?_; refine q_val rfl (fun w' hb => r_lenSlice rfl) ?_) | (refine gq_fieldAddr ?_; refine q_val rfl (fun w' hb => r_fieldAddrL rfl) ?_) | (refine gq_load ?_; refine q_val rfl (fun w' hb => r_loadVar (i := 2) (S.grow hb) rfl rfl rfl) ?_) | (refine g_alloc ?_; refine st_valE rfl (r_alloc S) ?_; rintro _ w ⟨b, rfl, -, S'⟩; replace S := S'; clear S') | (refine g_store ?_; first | (refine st_skipE rfl (r_storeVar (i := 0) S rfl rfl rfl rfl (of_decide_eq_true rfl) (of_decide_eq_true rfl)) ?_; intro w S'; replace S := S'; clear S') | (refine st_skipE rfl (r_storeVar (i := 1) S rfl rfl rfl rfl (of_decide_eq_true rfl) (of_decide_eq_true rfl)) ?_; intro w S'; replace S := S'; clear S') | (refine st_skipE rfl (r_storeVar (i := 2) S rfl rfl rfl rfl (of_decide_eq_true rfl) (of_decide_eq_true rfl)) ?_; intro w S'; replace S := S'; clear S')) | (refine st_val rfl (r_lookupS (k := (nth sp i).Contract) (eK := eI) (eV := eI) (S.mapAt (i := 0) rfl) hm rfl rfl) ?_) | (refine st_val rfl (r_slice (hr3.mono S.below) rfl rfl rfl (by omega) (by omega) (by omega)) ?_) | (refine wl_split rfl rfl (fun h => ?_) (fun h => ?_) <;> (fail_if_success (have hh : true = true := h)) <;> (fail_if_success (have hh : false = false := h)) <;> (try simp only [decide_eq_true_eq, decide_eq_false_iff_not, Bool.not_eq_true', Bool.not_eq_false', Int.not_lt, Int.not_le] at h) <;> (try (exfalso; omega))) | (refine WP_cond rfl (fun h => ?_) (fun h => ?_) <;> (fail_if_success (have hh : true = true := h)) <;> (fail_if_success (have hh : false = false := h)) <;> (try simp only [decide_eq_true_eq, decide_eq_false_iff_not, Bool.not_eq_true', Bool.not_eq_false', Int.not_lt, Int.not_le] at h) <;> (try (exfalso; omega))))
          refine st_valE rfl (r_litF (D := fGSpot) [nth sp i] (fun y => .agg y.enc.toArray) S rfl rfl (fun _ => rfl) rfl (by decide) (by decide)) ?_
          rintro _ w ⟨bl, rfl, -, hcl, S'⟩; replace S := S'; clear S'
          refine st_valE rfl (r_append1 (D := fGSpot) (i := 1) (b := bl) (x := nth sp i) S rfl rfl rfl (fl_one hcl) rfl (by decide) (of_decide_eq_true rfl) (by omega) (by omega)) ?_
          rintro vo' w ⟨-, S'⟩; replace S := S'; clear S' hcl
          repeat' (first | refine WP_region ?_ | refine wl_nil ?_ | refine then_normal ?_ | refine inB_normal ?_ | (refine g_move ?_; refine st_move rfl ?_) | (refine g_assign ?_; refine st_assign rfl ?_) | (refine g_b_add ?_; (refine st_val rfl (r_addN rfl rfl ?_ ?_) ?_; (first | omega | (simp <;> omega)); (first | omega | (simp <;> omega)))))
          refine ⟨⟨_, ?_, i + 1, vo', ⟨rfl, rfl, rfl, rfl, rfl, rfl, rfl, trivial⟩, ?_, by omega, by omega, rfl⟩⟩
          · omega
          · rw [hft, if_pos rfl]; exact S.keep [true, true, false, false]
      · rw [heardB_no hlt] at hft
        repeat' (first | refine WP_seq ?_ | refine WP_region ?_ | refine wl_nil ?_ | refine then_normal ?_ | refine inB_normal ?_ | refine WP_skip ?_ | refine WP_block ?_ | refine WP_condF rfl ?_ | refine WP_draw (by kernel_rfl) (by kernel_rfl) ?_ | (refine ql_nil ?_; intro w hb; replace S := S.grow hb; clear hb) | (refine g_guard ?_; refine st_off rfl ?_) | (refine g_move ?_; refine st_move rfl ?_) | (refine g_assign ?_; refine st_assign rfl ?_) | (refine g_pick ?_; first | refine st_pickT rfl rfl ?_ | refine st_pickF rfl rfl ?_) | (refine g_b_add ?_; (refine st_val rfl (r_addN rfl rfl ?_ ?_) ?_; (first | omega | (simp <;> omega)); (first | omega | (simp <;> omega)))) | (refine g_b_lss ?_; refine st_val rfl (r_lss rfl rfl) ?_) | (refine g_extract ?_; refine st_val rfl (r_extract rfl rfl) ?_) | (refine g_fieldAddr ?_; refine st_val rfl (r_fieldAddrL rfl) ?_) | (refine g_indexAddr ?_; (refine st_val rfl (r_indexAddr (hr2.mono S.below) rfl rfl ?_ ?_) ?_; (first | omega | (simp <;> omega)); (first | omega | (simp <;> omega)))) | (refine g_load ?_; first | (refine st_val rfl (r_loadElem (hr2.mono S.below) rfl ?_ ?_) ?_; (first | omega | (simp <;> omega)); (first | omega | (simp <;> omega))) | refine st_val rfl (r_loadVar (i := 2) S rfl rfl rfl) ?_) | (refine gq_move ?_; refine q_move rfl ?_) | (refine gq_assign ?_; refine q_assign rfl ?_) | (refine gq_b_add ?_; (refine q_val rfl (fun w' hb => r_addN rfl rfl ?_ ?_) ?_; (first | omega | (simp <;> omega)); (first | omega | (simp <;> omega)))) | (refine gq_b_sub ?_; (refine q_val rfl (fun w' hb => r_subN rfl rfl ?_ ?_) ?_; (first | omega | (simp <;> omega)); (first | omega | (simp <;> omega)))) | (refine gq_c_max ?_; refine q_val rfl (fun w' hb => r_max2 rfl rfl) ?_) | (refine gq_c_min ?_; refine q_val rfl (fun w' hb => r_min2 rfl rfl) ?_) | (refine gq_c_len ?_; refine q_val rfl (fun w' hb => r_lenSlice rfl) ?_) | (refine gq_fieldAddr ?_; refine q_val rfl (fun w' hb => r_fieldAddrL rfl) ?_) | (refine gq_load ?_; refine q_val rfl (fun w' hb => r_loadVar (i := 2) (S.grow hb) rfl rfl rfl) ?_) | (refine g_alloc ?_; refine st_valE rfl (r_alloc S) ?_; rintro _ w ⟨b, rfl, -, S'⟩; replace S := S'; clear S') | (refine g_store ?_; first | (refine st_skipE rfl (r_storeVar (i := 0) S rfl rfl rfl rfl (of_decide_eq_true rfl) (of_decide_eq_true rfl)) ?_; intro w S'; replace S := S'; clear S') | (refine st_skipE rfl (r_storeVar (i := 1) S rfl rfl rfl rfl (of_decide_eq_true rfl) (of_decide_eq_true rfl)) ?_; intro w S'; replace S := S'; clear S') | (refine st_skipE rfl (r_storeVar (i := 2) S rfl rfl rfl rfl (of_decide_eq_true rfl) (of_decide_eq_true rfl)) ?_; intro w S'; replace S := S'; clear S')) | (refine st_val rfl (r_lookupS (k := (nth sp i).Contract) (eK := eI) (eV := eI) (S.mapAt (i := 0) rfl) hm rfl rfl) ?_) | (refine wl_split rfl rfl (fun h => ?_) (fun h => ?_) <;> (fail_if_success (have hh : true = true := h)) <;> (fail_if_success (have hh : false = false := h)) <;> (try simp only [decide_eq_true_eq, decide_eq_false_iff_not, Bool.not_eq_true', Bool.not_eq_false', Int.not_lt, Int.not_le] at h) <;> (try (exfalso; omega)) <;> (try (exfalso; omega; done))) | (refine WP_cond rfl (fun h => ?_) (fun h => ?_) <;> (fail_if_success (have hh : true = true := h)) <;> (fail_if_success (have hh : false = false := h)) <;> (try simp only [decide_eq_true_eq, decide_eq_false_iff_not, Bool.not_eq_true', Bool.not_eq_false', Int.not_lt, Int.not_le] at h) <;> (try (exfalso; omega)) <;> (try (exfalso; omega; done))))
        all_goals
          refine ⟨⟨_, ?_, i + 1, vo, ⟨rfl, rfl, rfl, rfl, rfl, rfl, rfl, trivial⟩, ?_, by omega, by omega, rfl⟩⟩
          · omega
          · rw [hft, if_neg (by simp), List.append_nil]; exact S.keep [true, true, false]
  have hil : i.toNat = sp.length := by omega
  rw [hil, List.take_length] at S
  repeat' (first | refine WP_seq ?_ | refine WP_region ?_ | refine wl_nil ?_ | refine then_normal ?_ | refine then_exit ?_ | refine inB_here ?_ | refine WP_ret ?_ | refine WP_exit ?_ | (refine g_move ?_; refine st_move rfl ?_) | (refine g_assign ?_; refine st_assign rfl ?_) | (refine g_b_lss ?_; refine st_val rfl (r_lss rfl rfl) ?_) | (refine WP_cond rfl (fun h => ?_) (fun h => ?_) <;> (fail_if_success (have hh : true = true := h)) <;> (fail_if_success (have hh : false = false := h)) <;> (try simp only [decide_eq_true_eq, decide_eq_false_iff_not, Bool.not_eq_true', Bool.not_eq_false', Int.not_lt, Int.not_le] at h) <;> (try (exfalso; omega))))
  exact end2 rfl rfl rfl ⟨_, rfl, S.below, _, by rw [e]; rfl, by rw [e]; exact S.row (i := 1) rfl⟩
end Go.Proofs.YtijnbpnficcpmaaDoor
/- bill.Due. -/
namespace Go.Proofs.YtijnbpnficcpmaaDoor
open Go Go.Gx Go.RowKit
set_option linter.unusedVariables false
set_option linter.unusedSimpArgs false

def dueC (cnt : List GSpot) (c : GContract) : Int := c.Price * cntC cnt c.ID
def dueL (l : List GContract) (sp : List GSpot) : List Int := l.map (dueC (cntS l sp))
def dueI (l : List GContract) (sp : List GSpot) : List Int × Int := if okI l sp then (dueL l sp, 0) else ([], 390)
theorem counted_is {l : List GContract} {sp : List GSpot} {r : List Int × Int} {v1 v2 : Value} {w0 : World} (h : countedI l sp = r) (hr1 : Rd fGContract.ty w0 v1 l) (hr2 : Rd fGSpot.ty w0 v2 sp) (hl : l.length ≤ 1000000000) (hl2 : sp.length ≤ 1000000000) (hG : TblAt w0) :
    CallsR Tryd.prog 33 #[v1, v2] w0 (RowE w0 r) := by rw [← h]; exact counted_run hr1 hr2 hl hl2 hG
theorem price_rng {l : List GContract} (h : validC l = true) {c : GContract} (hc : c ∈ l) : 0 ≤ c.Price ∧ c.Price ≤ 1000000 := by
  have := valid_ok h hc
  unfold okC okN at this
  simp only [Bool.and_eq_true, decide_eq_true_eq] at this
  omega
theorem due_rng {p n : Int} (hp : 0 ≤ p ∧ p ≤ 1000000) (hn : 0 ≤ n ∧ n ≤ 60) : 0 ≤ p * n ∧ p * n ≤ 60000000 :=
  ⟨Int.mul_nonneg hp.1 hn.1, by have := Int.mul_le_mul hp.2 hn.2 hn.1 (by omega : (0 : Int) ≤ 1000000); omega⟩
theorem cntS_len {l : List GContract} {sp : List GSpot} : (cntS l sp).length ≤ sp.length := by unfold cntS spAt; rw [List.length_map]; exact cntI_len l sp
theorem dueL_at {l : List GContract} {sp : List GSpot} {i : Int} (h0 : 0 ≤ i) (hi : i < l.length) : nth (dueL l sp) i = dueC (cntS l sp) (nth l i) := by
  have h1 := nth_get (l := dueL l sp) (i := i) h0 (by unfold dueL; rw [List.length_map]; exact hi)
  unfold dueL at h1
  rw [List.getElem?_map, nth_get h0 hi] at h1
  exact (Option.some.inj h1).symm
theorem dueL_len {l : List GContract} {sp : List GSpot} : (dueL l sp).length = l.length := by unfold dueL; rw [List.length_map]
theorem due_put {l : List GContract} {f : GContract → Int} {i : Int} (h0 : 0 ≤ i) (hi : i < l.length) : ((l.take i.toNat).map f ++ List.replicate (l.length - i.toNat) 0).set i.toNat (f (nth l i)) = (l.take (i + 1).toNat).map f ++ List.replicate (l.length - (i + 1).toNat) 0 := by
  have hl : ((l.take i.toNat).map f).length = i.toNat := by rw [List.length_map, List.length_take]; omega
  rw [List.set_append_right _ _ (by omega), hl, Nat.sub_self, show l.length - i.toNat = (l.length - (i + 1).toNat) + 1 by omega, List.replicate_succ, List.set_cons_zero, show (i + 1).toNat = i.toNat + 1 by omega, List.take_add_one, nth_get h0 hi, Option.toList_some, List.map_append, List.append_assoc]
  rfl
set_option maxHeartbeats 1000000 in
theorem due_run {l : List GContract} {sp : List GSpot} {v1 v2 : Value} {w0 : World} (hr1 : Rd fGContract.ty w0 v1 l) (hr2 : Rd fGSpot.ty w0 v2 sp) (hl1 : l.length ≤ 1000000000) (hl2 : sp.length ≤ 1000000000) (hG : TblAt w0) :
    CallsR Tryd.prog 18 #[v1, v2] w0 (RowE w0 (dueI l sp)) := by
  have S := St.start w0
  obtain ⟨A, c, rfl⟩ := hr1.len
  obtain ⟨A2, c2, rfl⟩ := hr2.len
  refine CallsR.mk ?_
  refine calls_enter Tryd.func18 rfl (by intro _ h; first | exact nomatch h.1 | (obtain ⟨_, h, _⟩ := h; exact nomatch h)) Tryd.ntmps18 rfl ?_
  repeat' (first | refine WP_seq ?_ | refine WP_region ?_ | refine wl_nil ?_ | refine then_normal ?_ | (refine g_move ?_; refine st_move rfl ?_) | (refine g_assign ?_; refine st_assign rfl ?_))
  cases h : okI l sp with
  | false =>
    have e : dueI l sp = ([], 390) := by unfold dueI; rw [h]; rfl
    refine st_callR rfl (r_call2 rfl rfl rfl) (counted_is (r := ([], 120)) (by unfold countedI; rw [h]; rfl) (hr1.mono S.below) (hr2.mono S.below) hl1 hl2 (hG.mono S.below)) ?_
    rintro _ w hb ⟨vd, rfl, hrow⟩
    replace S := S.new hb hrow; clear hb hrow
    repeat' (first | refine WP_seq ?_ | refine WP_region ?_ | refine wl_nil ?_ | refine then_normal ?_ | refine then_ret ?_ | refine WP_ret ?_ | refine WP_condT rfl ?_ | (refine g_move ?_; refine st_move rfl ?_) | (refine g_assign ?_; refine st_assign rfl ?_) | (refine g_b_neq ?_; refine st_val rfl (r_neq rfl rfl) ?_) | (refine g_extract ?_; refine st_val rfl (r_extract rfl rfl) ?_))
    exact end2 rfl rfl rfl ⟨_, rfl, S.below, _, by rw [e]; rfl, by rw [e]; exact NewRow.nil _ _ _ _⟩
  | true =>
  have e : dueI l sp = (dueL l sp, 0) := by unfold dueI; rw [h]; rfl
  obtain ⟨h1, h2⟩ := okI_t h
  have hl12 := validC_len h1
  have hp60 := validP_len h2
  have hcl := cntI_len l sp
  have hom : ∀ x ∈ cntI l sp, 0 ≤ x ∧ x < sp.length := fun y hy => cntI_mem hy
  rw [e]
  refine st_callR rfl (r_call2 rfl rfl rfl) (counted_is (r := (cntI l sp, 0)) (by unfold countedI; rw [h]; rfl) (hr1.mono S.below) (hr2.mono S.below) hl1 hl2 (hG.mono S.below)) ?_
  rintro _ w hb ⟨vd, rfl, hrow⟩
  replace S := S.new hb hrow; clear hb hrow
  obtain ⟨out, hout⟩ : ∃ out, cntI l sp = out := ⟨_, rfl⟩
  have ecs : cntS l sp = spAt sp out := by unfold cntS; rw [hout]
  unfold dueL
  rw [ecs]
  rw [hout] at S hcl hom
  obtain ⟨A3, c3, hz⟩ := (S.rdRow (D := fInt .i64) (i := 0) rfl).len; subst hz
  repeat' (first | refine WP_seq ?_ | refine WP_region ?_ | refine wl_nil ?_ | refine then_normal ?_ | refine WP_skip ?_ | refine WP_condF rfl ?_ | (refine g_move ?_; refine st_move rfl ?_) | (refine g_assign ?_; refine st_assign rfl ?_) | (refine g_b_neq ?_; refine st_val rfl (r_neq rfl rfl) ?_) | (refine g_extract ?_; refine st_val rfl (r_extract rfl rfl) ?_))
  refine st_valE rfl (r_makeMap (eK := eI) (eV := eI) S) ?_
  rintro _ w ⟨bm, rfl, -, S'⟩; replace S := S'; clear S'
  repeat' (first | refine WP_seq ?_ | refine WP_region ?_ | refine wl_nil ?_ | refine then_normal ?_ | refine WP_block ?_ | (refine g_move ?_; refine st_move rfl ?_) | (refine g_assign ?_; refine st_assign rfl ?_) | (refine g_c_len ?_; refine st_val rfl (r_lenSlice rfl) ?_))
  refine WP_loop (fun m σ w1 => ∃ (i : Int) (Mn : List (Int × Int)), Has σ [(0, .slice A l.length c), (1, .slice A2 sp.length c2), (8, .map (some bm)), (23, .slice A3 out.length c3), (24, .int .i64 out.length), (25, .int .i64 i)] ∧ St w0 w1 [rowOb (fInt .i64) 3 (.slice A3 out.length c3) out, mapOb eI eI bm Mn] ∧ 0 ≤ i ∧ i ≤ out.length ∧ (∀ id, (mGet id Mn).getD 0 = cntC (spAt sp (out.take i.toNat)) id) ∧ m = out.length - i.toNat) out.length ⟨0, [], ⟨rfl, rfl, rfl, rfl, rfl, rfl, trivial⟩, S, by omega, by omega, fun id => rfl, by omega⟩ ?_
  clear S
  rintro m σ w1 ⟨i, Mn, hs, S, hi0, hi1, hMn, rfl⟩
  refine WP_has hs ?_
  by_cases hi : i < out.length
  · have hx := hom _ (nth_mem hi0 hi)
    have est := @spAt_take sp out i hi0 hi
    have hcr := @cntC_le (spAt sp (out.take i.toNat)) (nth sp (nth out i)).Contract
    rw [spAt_len, List.length_take, ← hMn] at hcr
    repeat' (first | refine WP_seq ?_ | refine WP_region ?_ | refine wl_nil ?_ | refine then_normal ?_ | refine inB_normal ?_ | refine WP_skip ?_ | refine WP_block ?_ | (refine g_move ?_; refine st_move rfl ?_) | (refine g_assign ?_; refine st_assign rfl ?_) | (refine g_b_add ?_; (refine st_val rfl (r_addN rfl rfl ?_ ?_) ?_; (first | omega | (simp <;> omega)); (first | omega | (simp <;> omega)))) | (refine g_b_lss ?_; refine st_val rfl (r_lss rfl rfl) ?_) | (refine g_fieldAddr ?_; refine st_val rfl (r_fieldAddr rfl) ?_) | (refine g_indexAddr ?_; first | (refine st_val rfl (r_indexAddr (hr2.mono S.below) rfl rfl ?_ ?_) ?_; (first | omega | (simp <;> omega)); (first | omega | (simp <;> omega))) | (refine st_val rfl (r_indexAddr (S.rdRow (D := (fInt .i64)) (i := 0) rfl) rfl rfl ?_ ?_) ?_; (first | omega | (simp <;> omega)); (first | omega | (simp <;> omega)))) | (refine g_load ?_; first | (refine st_val rfl (r_loadElem1 (hr2.mono S.below) rfl ?_ ?_ rfl) ?_; (first | omega | (simp <;> omega)); (first | omega | (simp <;> omega))) | (refine st_val rfl (r_loadElem1 (S.rdRow (D := (fInt .i64)) (i := 0) rfl) rfl ?_ ?_ rfl) ?_; (first | omega | (simp <;> omega)); (first | omega | (simp <;> omega)))) | (refine st_val rfl (r_lookup1D (k := (nth sp (nth out i)).Contract) (eK := eI) (eV := eI) 0 rfl (S.mapAt (i := 1) rfl) rfl rfl) ?_) | (refine st_skipE rfl (r_mapUpdate (i := 1) (eK := eI) (eV := eI) (k := (nth sp (nth out i)).Contract) (v := (mGet (nth sp (nth out i)).Contract Mn).getD 0 + 1) S rfl rfl rfl rfl) ?_; intro w S'; replace S := S'; clear S') | (refine WP_cond rfl (fun h => ?_) (fun h => ?_) <;> (fail_if_success (have hh : true = true := h)) <;> (fail_if_success (have hh : false = false := h)) <;> (try simp only [decide_eq_true_eq, decide_eq_false_iff_not, Bool.not_eq_true', Bool.not_eq_false', Int.not_lt, Int.not_le] at h) <;> (try (exfalso; omega))))
    refine ⟨⟨_, ?_, i + 1, _, ⟨rfl, rfl, rfl, rfl, rfl, rfl, trivial⟩, S, by omega, by omega, fun id => ?_, rfl⟩⟩
    · omega
    · rw [est, cntC_snoc, mGet_put, ← hMn]
      by_cases e2 : id = (nth sp (nth out i)).Contract
      · rw [if_pos e2, if_pos e2.symm, e2]; rfl
      · rw [if_neg e2, if_neg (fun h => e2 h.symm), Int.add_zero]
  have hil : i.toNat = out.length := by omega
  rw [hil, List.take_length] at hMn
  repeat' (first | refine WP_seq ?_ | refine WP_region ?_ | refine wl_nil ?_ | refine then_normal ?_ | refine then_exit ?_ | refine inB_here ?_ | refine WP_exit ?_ | (refine g_move ?_; refine st_move rfl ?_) | (refine g_b_lss ?_; refine st_val rfl (r_lss rfl rfl) ?_) | (refine g_c_len ?_; refine st_val rfl (r_lenSlice rfl) ?_) | (refine WP_cond rfl (fun h => ?_) (fun h => ?_) <;> (fail_if_success (have hh : true = true := h)) <;> (fail_if_success (have hh : false = false := h)) <;> (try simp only [decide_eq_true_eq, decide_eq_false_iff_not, Bool.not_eq_true', Bool.not_eq_false', Int.not_lt, Int.not_le] at h) <;> (try (exfalso; omega))))
  refine st_valE rfl (r_makeF (D := fInt .i64) (m := l.length) 0 S rfl rfl rfl (by decide) (by omega) (by omega)) ?_
  rintro vo w ⟨b, hvo, -, S'⟩; replace S := S'; clear S'
  repeat' (first | refine WP_seq ?_ | refine WP_region ?_ | refine wl_nil ?_ | refine then_normal ?_ | refine WP_block ?_ | (refine g_move ?_; refine st_move rfl ?_) | (refine g_assign ?_; refine st_assign rfl ?_) | (refine g_c_len ?_; refine st_val rfl (r_lenSlice rfl) ?_))
  refine WP_loop (fun m σ w1 => ∃ (i : Int), Has σ [(8, .map (some bm)), (11, vo), (41, .slice A l.length c), (42, .int .i64 l.length), (43, .int .i64 i)] ∧ St w0 w1 [mapOb eI eI bm Mn, rowOb (fInt .i64) 3 vo ((l.take i.toNat).map (dueC (spAt sp out)) ++ List.replicate (l.length - i.toNat) 0)] ∧ 0 ≤ i ∧ i ≤ l.length ∧ m = l.length - i.toNat) l.length ⟨0, ⟨rfl, rfl, rfl, rfl, rfl, trivial⟩, by rw [show Int.toNat 0 = 0 from rfl, List.take_zero, List.map_nil, List.nil_append, Nat.sub_zero]; exact S.keep [false, true, true], by omega, by omega, by omega⟩ ?_
  clear S hs
  rintro m σ w1 ⟨i, hs, S, hi0, hi1, rfl⟩
  refine WP_has hs ?_
  by_cases hi : i < l.length
  · have hcr := @cntC_le (spAt sp out) (nth l i).ID
    rw [spAt_len] at hcr
    have hpr := due_rng (price_rng h1 (nth_mem hi0 hi)) (n := cntC (spAt sp out) (nth l i).ID) (by omega)
    rw [← hMn] at hcr hpr
    have hpl : ((l.take i.toNat).map (dueC (spAt sp out)) ++ List.replicate (l.length - i.toNat) 0).length = l.length := by rw [List.length_append, List.length_map, List.length_take, List.length_replicate]; omega
    have hput := @due_put l (dueC (spAt sp out)) i hi0 hi
    repeat' (first | refine WP_seq ?_ | refine WP_region ?_ | refine wl_nil ?_ | refine then_normal ?_ | refine WP_skip ?_ | refine WP_block ?_ | (refine g_move ?_; refine st_move rfl ?_) | (refine g_assign ?_; refine st_assign rfl ?_) | (refine g_b_mul ?_; (refine st_val rfl (r_mulN rfl rfl ?_ ?_) ?_; (first | omega | (simp <;> omega)); (first | omega | (simp <;> omega)))) | (refine g_b_lss ?_; refine st_val rfl (r_lss rfl rfl) ?_) | (refine g_fieldAddr ?_; refine st_val rfl (r_fieldAddrL rfl) ?_) | (refine g_indexAddr ?_; first | (refine st_val rfl (r_indexAddr (hr1.mono S.below) rfl rfl ?_ ?_) ?_; (first | omega | (simp <;> omega)); (first | omega | (simp <;> omega))) | (refine st_val rfl (r_indexAddr (S.rdRow (D := (fInt .i64)) (i := 1) rfl) rfl rfl ?_ ?_) ?_; (first | omega | (simp <;> omega)); (first | omega | (simp <;> omega)))) | (refine g_load ?_; first | (refine st_val rfl (r_loadElem (hr1.mono S.below) rfl ?_ ?_) ?_; (first | omega | (simp <;> omega)); (first | omega | (simp <;> omega))) | refine st_val rfl (r_loadVar (i := 2) S rfl rfl rfl) ?_) | (refine g_alloc ?_; refine st_valE rfl (r_alloc S) ?_; rintro _ w ⟨b, rfl, -, S'⟩; replace S := S'; clear S') | (refine g_store ?_; first | (refine st_skipE rfl (r_storeVar (i := 0) S rfl rfl rfl rfl (of_decide_eq_true rfl) (of_decide_eq_true rfl)) ?_; intro w S'; replace S := S'; clear S') | (refine st_skipE rfl (r_storeVar (i := 1) S rfl rfl rfl rfl (of_decide_eq_true rfl) (of_decide_eq_true rfl)) ?_; intro w S'; replace S := S'; clear S') | (refine st_skipE rfl (r_storeVar (i := 2) S rfl rfl rfl rfl (of_decide_eq_true rfl) (of_decide_eq_true rfl)) ?_; intro w S'; replace S := S'; clear S')) | (refine st_val rfl (r_lookup1D (k := (nth l i).ID) (eK := eI) (eV := eI) 0 rfl (S.mapAt (i := 0) rfl) rfl rfl) ?_) | (refine WP_cond rfl (fun h => ?_) (fun h => ?_) <;> (fail_if_success (have hh : true = true := h)) <;> (fail_if_success (have hh : false = false := h)) <;> (try simp only [decide_eq_true_eq, decide_eq_false_iff_not, Bool.not_eq_true', Bool.not_eq_false', Int.not_lt, Int.not_le] at h) <;> (try (exfalso; omega))))
    refine st_skipE rfl (r_storeElem (i := 1) (D := fInt .i64) S rfl rfl rfl rfl (fun c hc => by cases List.mem_singleton.1 hc; rfl) (by omega) (by omega)) ?_
    intro w S'; replace S := S'; clear S'
    repeat' (first | refine WP_region ?_ | refine wl_nil ?_ | refine then_normal ?_ | refine inB_normal ?_ | (refine g_move ?_; refine st_move rfl ?_) | (refine g_b_add ?_; (refine st_val rfl (r_addN rfl rfl ?_ ?_) ?_; (first | omega | (simp <;> omega)); (first | omega | (simp <;> omega)))))
    refine ⟨⟨_, ?_, i + 1, ⟨rfl, rfl, rfl, rfl, rfl, trivial⟩, ?_, by omega, by omega, rfl⟩⟩
    · omega
    · rw [← hput]
      unfold dueC
      rw [← hMn]
      exact S.keep [true, true, false]
  have hil2 : i.toNat = l.length := by omega
  rw [hil2, List.take_length, Nat.sub_self, List.replicate_zero, List.append_nil] at S
  repeat' (first | refine WP_seq ?_ | refine WP_region ?_ | refine wl_nil ?_ | refine then_normal ?_ | refine then_exit ?_ | refine inB_here ?_ | refine WP_ret ?_ | refine WP_exit ?_ | (refine g_move ?_; refine st_move rfl ?_) | (refine g_assign ?_; refine st_assign rfl ?_) | (refine g_b_lss ?_; refine st_val rfl (r_lss rfl rfl) ?_) | (refine WP_cond rfl (fun h => ?_) (fun h => ?_) <;> (fail_if_success (have hh : true = true := h)) <;> (fail_if_success (have hh : false = false := h)) <;> (try simp only [decide_eq_true_eq, decide_eq_false_iff_not, Bool.not_eq_true', Bool.not_eq_false', Int.not_lt, Int.not_le] at h) <;> (try (exfalso; omega))))
  exact end2 rfl rfl rfl ⟨_, rfl, S.below, _, rfl, S.row (i := 1) rfl⟩
end Go.Proofs.YtijnbpnficcpmaaDoor
/- Postings: what is formed, what takes another one back. -/
namespace Go.Proofs.YtijnbpnficcpmaaDoor
open Go Go.Gx Go.RowKit
set_option linter.unusedVariables false
set_option linter.unusedSimpArgs false

theorem isIn_is {n lo hi : Int} {b : Bool} {w : World} (hE : inR n lo hi = b) : CallsV Tryd.prog 69 #[.int .i64 n, .int .i64 lo, .int .i64 hi] w (.bool b) := by
  have S := St.start w
  refine CallsV.mk ?_
  refine calls_enter Tryd.func69 rfl (by intro _ h; first | exact nomatch h.1 | (obtain ⟨_, h, _⟩ := h; exact nomatch h)) Tryd.ntmps69 rfl ?_
  repeat' (first | refine WP_seq ?_ | refine WP_region ?_ | refine wl_nil ?_ | refine then_normal ?_ | refine WP_ret ?_ | (refine g_guard ?_; refine st_off rfl ?_) | (refine g_move ?_; refine st_move rfl ?_) | (refine g_assign ?_; refine st_assign rfl ?_) | (refine g_pick ?_; first | refine st_pickT rfl rfl ?_ | refine st_pickF rfl rfl ?_) | (refine g_b_leq ?_; refine st_val rfl (r_leq rfl rfl) ?_) | (refine wl_split rfl rfl (fun h => ?_) (fun h => ?_) <;> (fail_if_success (have hh : true = true := h)) <;> (fail_if_success (have hh : false = false := h)) <;> (try simp only [decide_eq_true_eq, decide_eq_false_iff_not, Bool.not_eq_true', Bool.not_eq_false', Int.not_lt, Int.not_le] at h) <;> (try (exfalso; omega))))
  all_goals (refine end1 rfl rfl ⟨rb ?_, S.below⟩; subst hE; simp [inR]; try omega)
theorem isIn_spec {n lo hi : Int} {w : World} : CallsV Tryd.prog 69 #[.int .i64 n, .int .i64 lo, .int .i64 hi] w (.bool (inR n lo hi)) := isIn_is rfl
/-- What a posting must be by itself. -/
def fmP (p : GPosting) (a1 : Int) : Bool := decide (0 ≤ p.Day ∧ p.Day ≤ 359 ∧ 0 ≤ p.Debtor ∧ p.Debtor ≤ a1 ∧ 0 ≤ p.Creditor ∧ p.Creditor ≤ a1 ∧ p.Debtor ≠ p.Creditor ∧ 1 ≤ p.Amount ∧ p.Amount ≤ 1000000000000 ∧ 0 ≤ p.Subject ∧ p.Subject ≤ 999 ∧
  ((p.Kind = 1 ∨ p.Kind = 2) ∧ p.Of = -1 ∨ p.Kind = 3 ∧ 0 ≤ p.Of ∧ p.Of ≤ 199))
def bkP (p q : GPosting) : Bool := decide (q.Kind ≠ 3 ∧ p.Debtor = q.Creditor ∧ p.Creditor = q.Debtor ∧ p.Amount = q.Amount ∧ p.Subject = q.Subject)
theorem formed_spec {p : GPosting} {acc : Int} {w : World} : CallsV Tryd.prog 111 #[.agg p.enc.toArray, .int .i64 acc] w (.bool (fmP p (IntKind.i64.wrap (acc - 1)))) := by
  have S := St.start w
  refine CallsV.mk ?_
  refine calls_enter Tryd.func111 rfl (by intro _ h; first | exact nomatch h.1 | (obtain ⟨_, h, _⟩ := h; exact nomatch h)) Tryd.ntmps111 rfl ?_
  repeat' (first | refine WP_seq ?_ | refine WP_region ?_ | refine wl_nil ?_ | refine then_normal ?_ | refine inB_normal ?_ | refine then_ret ?_ | refine inB_ret ?_ | refine WP_ret ?_ | refine WP_skip ?_ | refine WP_block ?_ | (refine g_guard ?_; refine st_off rfl ?_) | (refine g_move ?_; refine st_move rfl ?_) | (refine g_assign ?_; refine st_assign rfl ?_) | (refine g_pick ?_; first | refine st_pickT rfl rfl ?_ | refine st_pickF rfl rfl ?_) | (refine g_b_sub ?_; refine st_val rfl (r_sub rfl rfl) ?_) | (refine g_b_eql ?_; refine st_val rfl (r_eql rfl rfl) ?_) | (refine g_un ?_; refine st_val rfl (r_not rfl) ?_) | (refine g_fieldAddr ?_; refine st_val rfl (r_fieldAddrL rfl) ?_) | (refine g_load ?_; refine st_val rfl (r_loadVar (i := 0) S rfl rfl rfl) ?_) | (refine g_callV ?_; (refine st_callV rfl (r_call3 rfl rfl rfl rfl) (isIn_spec) ?_; intro w hb; replace S := S.grow hb; clear hb)) | (refine g_box ?_; refine st_valE rfl (r_box S rfl) ?_; rintro _ w ⟨b, rfl, -, S'⟩; replace S := S'; clear S') | (refine wl_split rfl rfl (fun h => ?_) (fun h => ?_) <;> (fail_if_success (have hh : true = true := h)) <;> (fail_if_success (have hh : false = false := h)) <;> (try simp only [decide_eq_true_eq, decide_eq_false_iff_not, Bool.not_eq_true', Bool.not_eq_false', Int.not_lt, Int.not_le] at h) <;> (try (exfalso; omega))) | (refine WP_cond rfl (fun h => ?_) (fun h => ?_) <;> (fail_if_success (have hh : true = true := h)) <;> (fail_if_success (have hh : false = false := h)) <;> (try simp only [decide_eq_true_eq, decide_eq_false_iff_not, Bool.not_eq_true', Bool.not_eq_false', Int.not_lt, Int.not_le] at h) <;> (try (exfalso; omega))))
  all_goals
    refine end1 rfl rfl ⟨rb ?_, S.below⟩
    simp only [inR, decide_eq_true_eq, decide_eq_false_iff_not, Bool.not_eq_true', Bool.not_eq_false'] at *
    symm
    unfold fmP
  all_goals first
    | (rw [decide_eq_false_iff_not]; omega)
    | (rw [decide_eq_true_iff]; omega)
    | (rw [decide_eq_decide]; omega)
theorem back_spec {p q : GPosting} {w : World} : CallsV Tryd.prog 112 #[.agg p.enc.toArray, .agg q.enc.toArray] w (.bool (bkP p q)) := by
  have S := St.start w
  refine CallsV.mk ?_
  refine calls_enter Tryd.func112 rfl (by intro _ h; first | exact nomatch h.1 | (obtain ⟨_, h, _⟩ := h; exact nomatch h)) Tryd.ntmps112 rfl ?_
  repeat' (first | refine WP_seq ?_ | refine WP_region ?_ | refine wl_nil ?_ | refine then_normal ?_ | refine WP_ret ?_ | (refine g_guard ?_; refine st_off rfl ?_) | (refine g_move ?_; refine st_move rfl ?_) | (refine g_assign ?_; refine st_assign rfl ?_) | (refine g_pick ?_; first | refine st_pickT rfl rfl ?_ | refine st_pickF rfl rfl ?_) | (refine g_b_eql ?_; refine st_val rfl (r_eql rfl rfl) ?_) | (refine g_b_neq ?_; refine st_val rfl (r_neq rfl rfl) ?_) | (refine g_fieldAddr ?_; refine st_val rfl (r_fieldAddrL rfl) ?_) | (refine g_load ?_; first | refine st_val rfl (r_loadVar (i := 0) S rfl rfl rfl) ?_ | refine st_val rfl (r_loadVar (i := 1) S rfl rfl rfl) ?_) | (refine g_box ?_; refine st_valE rfl (r_box S rfl) ?_; rintro _ w ⟨b, rfl, -, S'⟩; replace S := S'; clear S') | (refine wl_split rfl rfl (fun h => ?_) (fun h => ?_) <;> (fail_if_success (have hh : true = true := h)) <;> (fail_if_success (have hh : false = false := h)) <;> (try simp only [decide_eq_true_eq, decide_eq_false_iff_not, Bool.not_eq_true', Bool.not_eq_false', Int.not_lt, Int.not_le] at h) <;> (try (exfalso; omega))))
  all_goals
    refine end1 rfl rfl ⟨rb ?_, S.below⟩
    symm
    unfold bkP
  all_goals first
    | (rw [decide_eq_false_iff_not]; omega)
    | (rw [decide_eq_true_iff]; omega)
    | (rw [decide_eq_decide]; omega)
end Go.Proofs.YtijnbpnficcpmaaDoor
/- The ledger of a book: what can be the next posting. -/
namespace Go.Proofs.YtijnbpnficcpmaaDoor
open Go Go.Gx Go.RowKit
set_option linter.unusedVariables false
set_option linter.unusedSimpArgs false

/-- The cells of a ledger: accounts, postings, months that are closed, and which postings were taken back. -/
def ledC (acc : Int) (v : Value) (cl : Int) (f : Nat → Bool) : List Value := .int .i64 acc :: v :: .int .i64 cl :: (List.range 200).map fun i => .bool (f i)
theorem ledC_len {acc : Int} {v : Value} {cl : Int} {f : Nat → Bool} : (ledC acc v cl f).length = 203 := by simp [ledC]
theorem ledC_at {acc : Int} {v : Value} {cl : Int} {f : Nat → Bool} {i o : Nat} (h : i < 200) (ho : o = 3 + i) : (ledC acc v cl f)[o]? = some (.bool (f i)) := by
  subst ho
  unfold ledC
  rw [show 3 + i = i + 1 + 1 + 1 by omega, List.getElem?_cons_succ, List.getElem?_cons_succ, List.getElem?_cons_succ, List.getElem?_map, List.getElem?_range h]; rfl
theorem ledC_put {acc : Int} {v : Value} {cl : Int} {f : Nat → Bool} {i o : Nat} {b : Bool} (h : i < 200) (ho : o = 3 + i) : splice (ledC acc v cl f) o [.bool b] = ledC acc v cl (fun k => if k = i then b else f k) := by
  subst ho
  apply List.ext_getElem?
  intro k
  unfold splice
  have hl := @ledC_len acc v cl f
  have ht : ((ledC acc v cl f).take (3 + i)).length = 3 + i := by rw [List.length_take]; omega
  by_cases h1 : k < 3 + i
  · rw [List.append_assoc, List.getElem?_append_left (by omega), List.getElem?_take_of_lt h1]
    by_cases h3 : k < 3
    · match k, h3 with
      | 0, _ => rfl
      | 1, _ => rfl
      | 2, _ => rfl
    · rw [ledC_at (i := k - 3) (by omega) (by omega), ledC_at (i := k - 3) (by omega) (by omega), if_neg (by omega)]
  · rw [List.append_assoc, List.getElem?_append_right (by omega), ht]
    by_cases h2 : k = 3 + i
    · subst h2
      rw [Nat.sub_self, ledC_at (i := i) h rfl, if_pos rfl]; rfl
    · rw [show k - (3 + i) = (k - (3 + i) - 1) + 1 by omega, List.singleton_append, List.getElem?_cons_succ, List.getElem?_drop]
      by_cases h4 : k < 203
      · rw [ledC_at (i := k - 3) (by omega) (by simp; omega), ledC_at (i := k - 3) (by omega) (by omega), if_neg (by omega)]
      · rw [List.getElem?_eq_none (by simp; omega), List.getElem?_eq_none (by rw [ledC_len]; omega)]
/-- Which postings were taken back. -/
def bkN (L : List GPosting) (i : Nat) : Bool := L.any fun q => decide (q.Kind = 3 ∧ q.Of = (i : Int))
def dayOk (L : List GPosting) (p : GPosting) : Bool := decide (L.length = 0 ∨ (nth L ((L.length : Int) - 1)).Day ≤ p.Day)
def revOk (L : List GPosting) (p : GPosting) : Bool := decide (p.Kind ≠ 3) || (decide (p.Of < L.length) && (!bkN L p.Of.toNat && bkP p (nth L p.Of)))
/-- Whether a posting can be the next one. -/
def takeB (a1 : Int) (L : List GPosting) (p : GPosting) : Bool := decide (L.length < 200) && (fmP p a1 && (dayOk L p && revOk L p))
theorem fmP_of {p : GPosting} {a1 : Int} (h : fmP p a1 = true) : p.Kind = 3 ∧ 0 ≤ p.Of ∧ p.Of ≤ 199 ∨ p.Kind ≠ 3 := by
  have := of_decide_eq_true h
  omega
theorem bkN_snoc {L : List GPosting} {p : GPosting} {i : Nat} : bkN (L ++ [p]) i = (bkN L i || decide (p.Kind = 3 ∧ p.Of = (i : Int))) := by
  unfold bkN; rw [List.any_append]; simp
theorem bkN_rev {L : List GPosting} {p : GPosting} (hk : p.Kind = 3) (h0 : 0 ≤ p.Of) : (fun k => if k = p.Of.toNat then true else bkN L k) = bkN (L ++ [p]) := by
  funext k
  rw [bkN_snoc]
  by_cases e : k = p.Of.toNat
  · rw [if_pos e, decide_eq_true ⟨hk, by omega⟩, Bool.or_true]
  · rw [if_neg e, decide_eq_false (fun h => e (by omega)), Bool.or_false]
theorem bkN_plain {L : List GPosting} {p : GPosting} (hk : p.Kind ≠ 3) : bkN L = bkN (L ++ [p]) := by
  funext k
  rw [bkN_snoc, decide_eq_false (fun h => hk h.1), Bool.or_false]
abbrev ledO (b : Nat) (acc : Int) (v : Value) (cl : Int) (L : List GPosting) : Ob := .var b 119 (ledC acc v cl (bkN L))
abbrev rowP (v : Value) (L : List GPosting) : Ob := rowOb fGPosting 84 v L
theorem formed_is {p : GPosting} {acc : Int} {b : Bool} {w : World} (h : fmP p (IntKind.i64.wrap (acc - 1)) = b) : CallsV Tryd.prog 111 #[.agg p.enc.toArray, .int .i64 acc] w (.bool b) := by rw [← h]; exact formed_spec
theorem back_is {p q : GPosting} {b : Bool} {w : World} (h : bkP p q = b) : CallsV Tryd.prog 112 #[.agg p.enc.toArray, .agg q.enc.toArray] w (.bool b) := by rw [← h]; exact back_spec
theorem one_po : ∀ (x : GPosting), ∀ u ∈ fGPosting.enc x, u.oneCell' = true := by intro x u hu; simp [fGPosting, GPosting.enc] at hu; rcases hu with rfl | rfl | rfl | rfl | rfl | rfl | rfl <;> rfl
def TakeR (w0 : World) (bl : Nat) (acc cl : Int) (L : List GPosting) (p : GPosting) (v : Value) (ex : List Ob) (r : Value) (w' : World) : Prop :=
  r = .bool (takeB (IntKind.i64.wrap (acc - 1)) L p) ∧ if takeB (IntKind.i64.wrap (acc - 1)) L p = true then ∃ v', St w0 w' (ledO bl acc v' cl (L ++ [p]) :: rowP v' (L ++ [p]) :: ex) else St w0 w' (ledO bl acc v cl L :: rowP v L :: ex)
set_option maxHeartbeats 1000000 in
theorem takes_run {bl : Nat} {acc cl : Int} {L : List GPosting} {p : GPosting} {v : Value} {ex : List Ob} {w0 w : World} (S : St w0 w (ledO bl acc v cl L :: rowP v L :: ex)) (hl : L.length ≤ 1000000000) :
    CallsW Tryd.prog 97 #[.pointer (some ⟨bl, 0, none⟩), .agg p.enc.toArray] w (TakeR w0 bl acc cl L p v ex) := by
  obtain ⟨a1, ha1⟩ : ∃ a1, IntKind.i64.wrap (acc - 1) = a1 := ⟨_, rfl⟩
  obtain ⟨A, c, hz⟩ := (S.rdRow (D := fGPosting) (i := 1) rfl).len; subst hz
  have hno : ∀ {w'}, takeB a1 L p = false → St w0 w' (ledO bl acc (.slice A L.length c) cl L :: rowP (.slice A L.length c) L :: ex) → TakeR w0 bl acc cl L p (.slice A L.length c) ex (.bool false) w' := fun h S => ⟨by rw [ha1, h], by rw [ha1, h, if_neg (by simp)]; exact S⟩
  refine CallsW.mk ?_
  refine calls_enter Tryd.func97 rfl (by intro _ h; first | exact nomatch h.1 | (obtain ⟨_, h, _⟩ := h; exact nomatch h)) Tryd.ntmps97 rfl ?_
  by_cases h2 : L.length < 200
  · cases hf : fmP p a1 with
    | false =>
      have e : takeB a1 L p = false := by unfold takeB; rw [hf]; simp
      repeat' (first | refine WP_seq ?_ | refine WP_region ?_ | refine wl_nil ?_ | refine then_normal ?_ | refine then_ret ?_ | refine WP_ret ?_ | refine WP_condT rfl ?_ | refine WP_draw (by kernel_rfl) (by kernel_rfl) ?_ | (refine ql_nil ?_; intro w hb; replace S := S.grow hb; clear hb) | (refine g_move ?_; refine st_move rfl ?_) | (refine g_assign ?_; refine st_assign rfl ?_) | (refine g_nilCheck ?_; refine st_val rfl (r_nilCheck rfl) ?_) | (refine g_c_len ?_; refine st_val rfl (r_lenSlice rfl) ?_) | (refine g_fieldAddr ?_; refine st_val rfl (r_fieldAddrL rfl) ?_) | (refine g_load ?_; refine st_val rfl (r_loadVar (i := 1) S rfl rfl rfl) ?_) | (refine gq_guard ?_; refine q_off rfl ?_) | (refine gq_move ?_; refine q_move rfl ?_) | (refine gq_pick ?_; first | refine q_pickT rfl rfl ?_ | refine q_pickF rfl rfl ?_) | (refine gq_b_geq ?_; refine q_val rfl (fun w' hb => r_geq rfl rfl) ?_) | (refine gq_nilCheck ?_; refine q_val rfl (fun w' hb => r_nilCheck rfl) ?_) | (refine gq_un ?_; refine q_val rfl (fun w' hb => r_not rfl) ?_) | (refine gq_fieldAddr ?_; refine q_val rfl (fun w' hb => r_fieldAddrL rfl) ?_) | (refine gq_load ?_; first | refine q_val rfl (fun w' hb => r_loadVarA (i := 0) (S.grow hb) rfl rfl rfl rfl) ?_ | refine q_val rfl (fun w' hb => r_loadVar (i := 1) (S.grow hb) rfl rfl rfl) ?_) | (refine gq_callV ?_; refine q_callV rfl (fun w' hb => r_call2 rfl rfl rfl) (fun w' hb => formed_is (ha1 ▸ hf)) ?_) | (refine g_box ?_; refine st_valE rfl (r_box S rfl) ?_; rintro _ w ⟨b, rfl, -, S'⟩; replace S := S'.front; clear S') | (refine ql_split rfl rfl (fun h => ?_) (fun h => ?_) <;> (fail_if_success (have hh : true = true := h)) <;> (fail_if_success (have hh : false = false := h)) <;> (try simp only [decide_eq_true_eq, decide_eq_false_iff_not, Bool.not_eq_true', Bool.not_eq_false', Int.not_lt, Int.not_le] at h) <;> (try (exfalso; omega)) <;> (try (exfalso; omega; done))))
      exact end1 rfl rfl ⟨_, rfl, hno e S.tail⟩
    | true =>
    cases hd : dayOk L p with
    | false =>
      have e : takeB a1 L p = false := by unfold takeB; rw [hd]; simp
      have hd' := of_decide_eq_false hd
      repeat' (first | refine WP_seq ?_ | refine WP_region ?_ | refine wl_nil ?_ | refine then_normal ?_ | refine then_ret ?_ | refine WP_ret ?_ | refine WP_draw (by kernel_rfl) (by kernel_rfl) ?_ | (refine ql_nil ?_; intro w hb; replace S := S.grow hb; clear hb) | (refine g_move ?_; refine st_move rfl ?_) | (refine g_assign ?_; refine st_assign rfl ?_) | (refine g_nilCheck ?_; refine st_val rfl (r_nilCheck rfl) ?_) | (refine g_c_len ?_; refine st_val rfl (r_lenSlice rfl) ?_) | (refine g_fieldAddr ?_; refine st_val rfl (r_fieldAddrL rfl) ?_) | (refine g_load ?_; refine st_val rfl (r_loadVar (i := 1) S rfl rfl rfl) ?_) | (refine gq_move ?_; refine q_move rfl ?_) | (refine gq_pick ?_; first | refine q_pickT rfl rfl ?_ | refine q_pickF rfl rfl ?_) | (refine gq_b_sub ?_; (refine q_val rfl (fun w' hb => r_subN rfl rfl ?_ ?_) ?_; (first | omega | (simp <;> omega)); (first | omega | (simp <;> omega)))) | (refine gq_b_lss ?_; refine q_val rfl (fun w' hb => r_lss rfl rfl) ?_) | (refine gq_b_gtr ?_; refine q_val rfl (fun w' hb => r_gtr rfl rfl) ?_) | (refine gq_b_geq ?_; refine q_val rfl (fun w' hb => r_geq rfl rfl) ?_) | (refine gq_nilCheck ?_; refine q_val rfl (fun w' hb => r_nilCheck rfl) ?_) | (refine gq_un ?_; refine q_val rfl (fun w' hb => r_not rfl) ?_) | (refine gq_fieldAddr ?_; first | refine q_val rfl (fun w' hb => r_fieldAddrL rfl) ?_ | refine q_val rfl (fun w' hb => r_fieldAddr rfl) ?_) | (refine gq_indexAddr ?_; (refine q_val rfl (fun w' hb => r_indexAddr ((S.grow hb).rdRow (D := fGPosting) (i := 2) rfl) rfl rfl ?_ ?_) ?_; (first | omega | (simp <;> omega)); (first | omega | (simp <;> omega)))) | (refine gq_load ?_; first | (refine q_val rfl (fun w' hb => r_loadElemF ((S.grow hb).rdRow (D := fGPosting) (i := 2) rfl) rfl ?_ ?_ rfl) ?_; (first | omega | (simp <;> omega)); (first | omega | (simp <;> omega))) | refine q_val rfl (fun w' hb => r_loadVar (i := 0) (S.grow hb) rfl rfl rfl) ?_ | refine q_val rfl (fun w' hb => r_loadVarA (i := 0) (S.grow hb) rfl rfl rfl rfl) ?_ | refine q_val rfl (fun w' hb => r_loadVar (i := 1) (S.grow hb) rfl rfl rfl) ?_) | (refine gq_callV ?_; refine q_callV rfl (fun w' hb => r_call2 rfl rfl rfl) (fun w' hb => formed_is (ha1 ▸ hf)) ?_) | (refine g_box ?_; refine st_valE rfl (r_box S rfl) ?_; rintro _ w ⟨b, rfl, -, S'⟩; replace S := S'.front; clear S') | (refine ql_split rfl rfl (fun h => ?_) (fun h => ?_) <;> (fail_if_success (have hh : true = true := h)) <;> (fail_if_success (have hh : false = false := h)) <;> (try simp only [decide_eq_true_eq, decide_eq_false_iff_not, Bool.not_eq_true', Bool.not_eq_false', Int.not_lt, Int.not_le] at h) <;> (try (exfalso; omega)) <;> (try (exfalso; omega; done))) | (refine WP_cond rfl (fun h => ?_) (fun h => ?_) <;> (fail_if_success (have hh : true = true := h)) <;> (fail_if_success (have hh : false = false := h)) <;> (try simp only [decide_eq_true_eq, decide_eq_false_iff_not, Bool.not_eq_true', Bool.not_eq_false', Int.not_lt, Int.not_le] at h) <;> (try (exfalso; omega)) <;> (try (exfalso; omega; done))))
      exact end1 rfl rfl ⟨_, rfl, hno e S.tail⟩
    | true =>
    have hd' := of_decide_eq_true hd
    by_cases hk : p.Kind = 3
    · have hkn : decide (p.Kind ≠ 3) = false := decide_eq_false (fun h => h hk)
      have hof : 0 ≤ p.Of ∧ p.Of ≤ 199 := by have := fmP_of hf; omega
      by_cases ho : p.Of < L.length
      · cases hb : bkN L p.Of.toNat with
        | true =>
          have e : takeB a1 L p = false := by unfold takeB revOk; rw [hb, hkn]; simp
          repeat' (first | refine WP_seq ?_ | refine WP_region ?_ | refine wl_nil ?_ | refine then_normal ?_ | refine then_ret ?_ | refine WP_ret ?_ | refine WP_skip ?_ | refine WP_condT rfl ?_ | refine WP_draw (by kernel_rfl) (by kernel_rfl) ?_ | (refine ql_nil ?_; intro w hb; replace S := S.grow hb; clear hb) | (refine g_move ?_; refine st_move rfl ?_) | (refine g_assign ?_; refine st_assign rfl ?_) | (refine g_b_eql ?_; refine st_val rfl (r_eql rfl rfl) ?_) | (refine g_nilCheck ?_; refine st_val rfl (r_nilCheck rfl) ?_) | (refine g_c_len ?_; refine st_val rfl (r_lenSlice rfl) ?_) | (refine g_fieldAddr ?_; refine st_val rfl (r_fieldAddrL rfl) ?_) | (refine g_load ?_; first | refine st_val rfl (r_loadVar (i := 0) S rfl rfl rfl) ?_ | refine st_val rfl (r_loadVar (i := 1) S rfl rfl rfl) ?_) | (refine gq_guard ?_; refine q_off rfl ?_) | (refine gq_move ?_; refine q_move rfl ?_) | (refine gq_pick ?_; first | refine q_pickT rfl rfl ?_ | refine q_pickF rfl rfl ?_) | (refine gq_b_sub ?_; (refine q_val rfl (fun w' hb => r_subN rfl rfl ?_ ?_) ?_; (first | omega | (simp <;> omega)); (first | omega | (simp <;> omega)))) | (refine gq_b_lss ?_; refine q_val rfl (fun w' hb => r_lss rfl rfl) ?_) | (refine gq_b_gtr ?_; refine q_val rfl (fun w' hb => r_gtr rfl rfl) ?_) | (refine gq_b_geq ?_; refine q_val rfl (fun w' hb => r_geq rfl rfl) ?_) | (refine gq_nilCheck ?_; refine q_val rfl (fun w' hb => r_nilCheck rfl) ?_) | (refine gq_un ?_; refine q_val rfl (fun w' hb => r_not rfl) ?_) | (refine gq_fieldAddr ?_; first | refine q_val rfl (fun w' hb => r_fieldAddrL rfl) ?_ | refine q_val rfl (fun w' hb => r_fieldAddr rfl) ?_) | (refine gq_indexAddr ?_; first | (refine q_val rfl (fun w' hb => r_indexAddr ((S.grow hb).rdRow (D := fGPosting) (i := 2) rfl) rfl rfl ?_ ?_) ?_; (first | omega | (simp <;> omega)); (first | omega | (simp <;> omega))) | (refine q_val rfl (fun w' hb => r_indexAddrArrL rfl rfl ?_ ?_) ?_; (first | omega | (simp <;> omega)); (first | omega | (simp <;> omega)))) | (refine gq_load ?_; first | (refine q_val rfl (fun w' hb => r_loadElemF ((S.grow hb).rdRow (D := fGPosting) (i := 2) rfl) rfl ?_ ?_ rfl) ?_; (first | omega | (simp <;> omega)); (first | omega | (simp <;> omega))) | refine q_val rfl (fun w' hb => r_loadVar (i := 0) (S.grow hb) rfl rfl rfl) ?_ | refine q_val rfl (fun w' hb => r_loadVarA (i := 0) (S.grow hb) rfl rfl rfl rfl) ?_ | refine q_val rfl (fun w' hb => r_loadVar (i := 1) (S.grow hb) rfl rfl rfl) ?_) | (refine gq_callV ?_; refine q_callV rfl (fun w' hb => r_call2 rfl rfl rfl) (fun w' hb => formed_is (ha1 ▸ hf)) ?_) | (refine g_box ?_; refine st_valE rfl (r_box S rfl) ?_; rintro _ w ⟨b, rfl, -, S'⟩; replace S := S'.front; clear S') | (refine q_val rfl (fun w' hgr => r_loadVar (i := 1) (u := .bool true) (S.grow hgr) rfl rfl (by rw [ledC_at (i := p.Of.toNat) (by omega) (by omega), hb])) ?_) | (refine ql_split rfl rfl (fun h => ?_) (fun h => ?_) <;> (fail_if_success (have hh : true = true := h)) <;> (fail_if_success (have hh : false = false := h)) <;> (try simp only [decide_eq_true_eq, decide_eq_false_iff_not, Bool.not_eq_true', Bool.not_eq_false', Int.not_lt, Int.not_le] at h) <;> (try (exfalso; omega)) <;> (try (exfalso; omega; done))) | (refine WP_cond rfl (fun h => ?_) (fun h => ?_) <;> (fail_if_success (have hh : true = true := h)) <;> (fail_if_success (have hh : false = false := h)) <;> (try simp only [decide_eq_true_eq, decide_eq_false_iff_not, Bool.not_eq_true', Bool.not_eq_false', Int.not_lt, Int.not_le] at h) <;> (try (exfalso; omega)) <;> (try (exfalso; omega; done))))
          exact end1 rfl rfl ⟨_, rfl, hno e S.tail⟩
        | false =>
          cases hbk : bkP p (nth L p.Of) with
          | false =>
            have e : takeB a1 L p = false := by unfold takeB revOk; rw [hbk, hkn]; simp
            repeat' (first | refine WP_seq ?_ | refine WP_region ?_ | refine wl_nil ?_ | refine then_normal ?_ | refine then_ret ?_ | refine WP_ret ?_ | refine WP_skip ?_ | refine WP_condT rfl ?_ | refine WP_draw (by kernel_rfl) (by kernel_rfl) ?_ | (refine ql_nil ?_; intro w hb; replace S := S.grow hb; clear hb) | (refine g_move ?_; refine st_move rfl ?_) | (refine g_assign ?_; refine st_assign rfl ?_) | (refine g_b_eql ?_; refine st_val rfl (r_eql rfl rfl) ?_) | (refine g_nilCheck ?_; refine st_val rfl (r_nilCheck rfl) ?_) | (refine g_c_len ?_; refine st_val rfl (r_lenSlice rfl) ?_) | (refine g_fieldAddr ?_; refine st_val rfl (r_fieldAddrL rfl) ?_) | (refine g_load ?_; first | refine st_val rfl (r_loadVar (i := 0) S rfl rfl rfl) ?_ | refine st_val rfl (r_loadVar (i := 1) S rfl rfl rfl) ?_) | (refine gq_move ?_; refine q_move rfl ?_) | (refine gq_pick ?_; first | refine q_pickT rfl rfl ?_ | refine q_pickF rfl rfl ?_) | (refine gq_b_sub ?_; (refine q_val rfl (fun w' hb => r_subN rfl rfl ?_ ?_) ?_; (first | omega | (simp <;> omega)); (first | omega | (simp <;> omega)))) | (refine gq_b_lss ?_; refine q_val rfl (fun w' hb => r_lss rfl rfl) ?_) | (refine gq_b_gtr ?_; refine q_val rfl (fun w' hb => r_gtr rfl rfl) ?_) | (refine gq_b_geq ?_; refine q_val rfl (fun w' hb => r_geq rfl rfl) ?_) | (refine gq_nilCheck ?_; refine q_val rfl (fun w' hb => r_nilCheck rfl) ?_) | (refine gq_un ?_; refine q_val rfl (fun w' hb => r_not rfl) ?_) | (refine gq_fieldAddr ?_; first | refine q_val rfl (fun w' hb => r_fieldAddrL rfl) ?_ | refine q_val rfl (fun w' hb => r_fieldAddr rfl) ?_) | (refine gq_indexAddr ?_; first | (refine q_val rfl (fun w' hb => r_indexAddr ((S.grow hb).rdRow (D := fGPosting) (i := 2) rfl) rfl rfl ?_ ?_) ?_; (first | omega | (simp <;> omega)); (first | omega | (simp <;> omega))) | (refine q_val rfl (fun w' hb => r_indexAddrArrL rfl rfl ?_ ?_) ?_; (first | omega | (simp <;> omega)); (first | omega | (simp <;> omega)))) | (refine gq_load ?_; first | (refine q_val rfl (fun w' hb => r_loadElem ((S.grow hb).rdRow (D := fGPosting) (i := 2) rfl) rfl ?_ ?_) ?_; (first | omega | (simp <;> omega)); (first | omega | (simp <;> omega))) | (refine q_val rfl (fun w' hb => r_loadElemF ((S.grow hb).rdRow (D := fGPosting) (i := 2) rfl) rfl ?_ ?_ rfl) ?_; (first | omega | (simp <;> omega)); (first | omega | (simp <;> omega))) | refine q_val rfl (fun w' hb => r_loadVar (i := 0) (S.grow hb) rfl rfl rfl) ?_ | refine q_val rfl (fun w' hb => r_loadVarA (i := 0) (S.grow hb) rfl rfl rfl rfl) ?_ | refine q_val rfl (fun w' hb => r_loadVar (i := 1) (S.grow hb) rfl rfl rfl) ?_) | (refine gq_callV ?_; first | refine q_callV rfl (fun w' hb => r_call2 rfl rfl rfl) (fun w' hb => formed_is (ha1 ▸ hf)) ?_ | refine q_callV rfl (fun w' hb => r_call2 rfl rfl rfl) (fun w' hb => back_is hbk) ?_) | (refine g_box ?_; refine st_valE rfl (r_box S rfl) ?_; rintro _ w ⟨b, rfl, -, S'⟩; replace S := S'.front; clear S') | (refine q_val rfl (fun w' hgr => r_loadVar (i := 1) (u := .bool false) (S.grow hgr) rfl rfl (by rw [ledC_at (i := p.Of.toNat) (by omega) (by omega), hb])) ?_) | (refine ql_split rfl rfl (fun h => ?_) (fun h => ?_) <;> (fail_if_success (have hh : true = true := h)) <;> (fail_if_success (have hh : false = false := h)) <;> (try simp only [decide_eq_true_eq, decide_eq_false_iff_not, Bool.not_eq_true', Bool.not_eq_false', Int.not_lt, Int.not_le] at h) <;> (try (exfalso; omega)) <;> (try (exfalso; omega; done))) | (refine WP_cond rfl (fun h => ?_) (fun h => ?_) <;> (fail_if_success (have hh : true = true := h)) <;> (fail_if_success (have hh : false = false := h)) <;> (try simp only [decide_eq_true_eq, decide_eq_false_iff_not, Bool.not_eq_true', Bool.not_eq_false', Int.not_lt, Int.not_le] at h) <;> (try (exfalso; omega)) <;> (try (exfalso; omega; done))))
            exact end1 rfl rfl ⟨_, rfl, hno e S.tail⟩
          | true =>
            have hE : takeB a1 L p = true := by unfold takeB revOk; rw [hf, hd, hbk, hb, decide_eq_true h2, decide_eq_true ho]; simp
            repeat' (first | refine WP_seq ?_ | refine WP_region ?_ | refine wl_nil ?_ | refine then_normal ?_ | refine WP_skip ?_ | refine WP_condF rfl ?_ | refine WP_drawTail 6 (by kernel_rfl) (by decide +kernel) ?_ | refine WP_draw (by kernel_rfl) (by kernel_rfl) ?_ | (refine ql_nil ?_; intro w hb; replace S := S.grow hb; clear hb) | (refine g_move ?_; refine st_move rfl ?_) | (refine g_assign ?_; refine st_assign rfl ?_) | (refine g_b_eql ?_; refine st_val rfl (r_eql rfl rfl) ?_) | (refine g_nilCheck ?_; refine st_val rfl (r_nilCheck rfl) ?_) | (refine g_c_len ?_; refine st_val rfl (r_lenSlice rfl) ?_) | (refine g_fieldAddr ?_; refine st_val rfl (r_fieldAddrL rfl) ?_) | (refine g_load ?_; first | refine st_val rfl (r_loadVar (i := 0) S rfl rfl rfl) ?_ | refine st_val rfl (r_loadVar (i := 1) S rfl rfl rfl) ?_) | (refine gq_move ?_; refine q_move rfl ?_) | (refine gq_pick ?_; first | refine q_pickT rfl rfl ?_ | refine q_pickF rfl rfl ?_) | (refine gq_b_sub ?_; (refine q_val rfl (fun w' hb => r_subN rfl rfl ?_ ?_) ?_; (first | omega | (simp <;> omega)); (first | omega | (simp <;> omega)))) | (refine gq_b_lss ?_; refine q_val rfl (fun w' hb => r_lss rfl rfl) ?_) | (refine gq_b_gtr ?_; refine q_val rfl (fun w' hb => r_gtr rfl rfl) ?_) | (refine gq_b_geq ?_; refine q_val rfl (fun w' hb => r_geq rfl rfl) ?_) | (refine gq_nilCheck ?_; refine q_val rfl (fun w' hb => r_nilCheck rfl) ?_) | (refine gq_un ?_; refine q_val rfl (fun w' hb => r_not rfl) ?_) | (refine gq_fieldAddr ?_; first | refine q_val rfl (fun w' hb => r_fieldAddrL rfl) ?_ | refine q_val rfl (fun w' hb => r_fieldAddr rfl) ?_) | (refine gq_indexAddr ?_; first | (refine q_val rfl (fun w' hb => r_indexAddr ((S.grow hb).rdRow (D := fGPosting) (i := 2) rfl) rfl rfl ?_ ?_) ?_; (first | omega | (simp <;> omega)); (first | omega | (simp <;> omega))) | (refine q_val rfl (fun w' hb => r_indexAddrArrL rfl rfl ?_ ?_) ?_; (first | omega | (simp <;> omega)); (first | omega | (simp <;> omega)))) | (refine gq_load ?_; first | (refine q_val rfl (fun w' hb => r_loadElem ((S.grow hb).rdRow (D := fGPosting) (i := 2) rfl) rfl ?_ ?_) ?_; (first | omega | (simp <;> omega)); (first | omega | (simp <;> omega))) | (refine q_val rfl (fun w' hb => r_loadElemF ((S.grow hb).rdRow (D := fGPosting) (i := 2) rfl) rfl ?_ ?_ rfl) ?_; (first | omega | (simp <;> omega)); (first | omega | (simp <;> omega))) | refine q_val rfl (fun w' hb => r_loadVar (i := 0) (S.grow hb) rfl rfl rfl) ?_ | refine q_val rfl (fun w' hb => r_loadVarA (i := 0) (S.grow hb) rfl rfl rfl rfl) ?_ | refine q_val rfl (fun w' hb => r_loadVar (i := 1) (S.grow hb) rfl rfl rfl) ?_) | (refine gq_callV ?_; first | refine q_callV rfl (fun w' hb => r_call2 rfl rfl rfl) (fun w' hb => formed_is (ha1 ▸ hf)) ?_ | refine q_callV rfl (fun w' hb => r_call2 rfl rfl rfl) (fun w' hb => back_is hbk) ?_) | (refine g_box ?_; refine st_valE rfl (r_box S rfl) ?_; rintro _ w ⟨b, rfl, -, S'⟩; replace S := S'.front; clear S') | (refine q_val rfl (fun w' hgr => r_loadVar (i := 1) (u := .bool false) (S.grow hgr) rfl rfl (by rw [ledC_at (i := p.Of.toNat) (by omega) (by omega), hb])) ?_) | (refine ql_split rfl rfl (fun h => ?_) (fun h => ?_) <;> (fail_if_success (have hh : true = true := h)) <;> (fail_if_success (have hh : false = false := h)) <;> (try simp only [decide_eq_true_eq, decide_eq_false_iff_not, Bool.not_eq_true', Bool.not_eq_false', Int.not_lt, Int.not_le] at h) <;> (try (exfalso; omega)) <;> (try (exfalso; omega; done))) | (refine WP_cond rfl (fun h => ?_) (fun h => ?_) <;> (fail_if_success (have hh : true = true := h)) <;> (fail_if_success (have hh : false = false := h)) <;> (try simp only [decide_eq_true_eq, decide_eq_false_iff_not, Bool.not_eq_true', Bool.not_eq_false', Int.not_lt, Int.not_le] at h) <;> (try (exfalso; omega)) <;> (try (exfalso; omega; done))))
            refine st_skipE rfl (r_storeVar (i := 1) (size := 1) S rfl rfl rfl rfl (by rw [ledC_len]; omega) (of_decide_eq_true rfl)) ?_
            intro w S'
            have S2 : St w0 w (.var b 84 p.enc :: .var bl 119 (splice (ledC acc (.slice A L.length c) cl (bkN L)) (3 + p.Of.toNat * 1) [.bool true]) :: rowP (.slice A L.length c) L :: ex) := S'
            rw [ledC_put (i := p.Of.toNat) (by omega) (by omega), bkN_rev hk hof.1] at S2
            clear S S'
            have S := S2
            clear S2
            repeat' (first | refine WP_seq ?_ | refine WP_region ?_ | refine wl_nil ?_ | refine then_normal ?_ | refine WP_ret ?_ | (refine WP_drawJ (fun w' => St w0 w' [.var b 84 p.enc, .var bl 119 (ledC acc (.slice A L.length c) cl (bkN (L ++ [p])))]) [0,1,2,3,4,5,6] [7,8] [9,10,11,12] (by kernel_rfl) (by decide) (by decide +kernel) (fun w' hb => (S.grow hb).keep [true, true]) ?_; intro w hb; replace S := S.grow hb; clear hb) | refine jq_nil ?_ | refine wj_nil ?_ | (refine g_assign ?_; refine st_assign rfl ?_) | (refine g_nilCheck ?_; refine st_val rfl (r_nilCheck rfl) ?_) | (refine g_fieldAddr ?_; refine st_val rfl (r_fieldAddrL rfl) ?_) | (refine gj_move ?_; refine jq_val rfl (fun w' hJ => ⟨rfl⟩) ?_) | (refine gj_assign ?_; refine jq_val rfl (fun w' hJ => ⟨rfl⟩) ?_) | (refine gj_nilCheck ?_; refine jq_val rfl (fun w' hJ => r_nilCheck rfl) ?_) | (refine gj_fieldAddr ?_; refine jq_val rfl (fun w' hJ => r_fieldAddrL rfl) ?_) | (refine gj_load ?_; first | refine jq_val rfl (fun w' hJ => r_loadVarA (i := 0) hJ rfl rfl rfl rfl) ?_ | refine jq_val rfl (fun w' hJ => r_loadVar (i := 1) hJ rfl rfl rfl) ?_) | (refine g_store ?_; first | (refine st_skipE rfl (r_storeVar (i := 0) S rfl rfl rfl rfl (of_decide_eq_true rfl) (of_decide_eq_true rfl)) ?_; intro w S'; replace S := S'; clear S') | (refine st_skipE rfl (r_storeVar (i := 1) S rfl rfl rfl rfl (of_decide_eq_true rfl) (of_decide_eq_true rfl)) ?_; intro w S'; replace S := S'; clear S')) | (refine wj_valE rfl (r_litF (D := fGPosting) [p] (fun y => .agg y.enc.toArray) S rfl rfl (fun _ => rfl) rfl (by decide) (by decide)) ?_; rintro _ w ⟨bq, rfl, -, hcl, S'⟩; refine ⟨S'.keep [true, true], ?_⟩; replace S := S'; clear S') | (refine wj_valE rfl (r_append1 (D := fGPosting) (i := 2) (b := bq) (x := p) S rfl rfl rfl (fl_one hcl) rfl (by decide) (one_po p) (by omega) (by omega)) ?_; rintro v2 w ⟨-, S'⟩; refine ⟨S'.keep [true, true], ?_⟩; replace S := S'; clear S' hcl; obtain ⟨A2, c2, hz⟩ := (S.rdRow (D := fGPosting) (i := 2) rfl).len; subst hz))
            all_goals exact end1 rfl rfl ⟨_, rfl, by rw [ha1, hE]; rfl, by rw [ha1, hE, if_pos rfl]; exact ⟨_, S.tail.drop_last⟩⟩
      · have e : takeB a1 L p = false := by unfold takeB revOk; rw [decide_eq_false ho, hkn]; simp
        repeat' (first | refine WP_seq ?_ | refine WP_region ?_ | refine wl_nil ?_ | refine then_normal ?_ | refine then_ret ?_ | refine WP_ret ?_ | refine WP_skip ?_ | refine WP_condT rfl ?_ | refine WP_condF rfl ?_ | refine WP_draw (by kernel_rfl) (by kernel_rfl) ?_ | (refine ql_nil ?_; intro w hb; replace S := S.grow hb; clear hb) | (refine g_move ?_; refine st_move rfl ?_) | (refine g_assign ?_; refine st_assign rfl ?_) | (refine g_b_eql ?_; refine st_val rfl (r_eql rfl rfl) ?_) | (refine g_nilCheck ?_; refine st_val rfl (r_nilCheck rfl) ?_) | (refine g_c_len ?_; refine st_val rfl (r_lenSlice rfl) ?_) | (refine g_fieldAddr ?_; refine st_val rfl (r_fieldAddrL rfl) ?_) | (refine g_load ?_; first | refine st_val rfl (r_loadVar (i := 0) S rfl rfl rfl) ?_ | refine st_val rfl (r_loadVar (i := 1) S rfl rfl rfl) ?_) | (refine gq_guard ?_; refine q_off rfl ?_) | (refine gq_move ?_; refine q_move rfl ?_) | (refine gq_pick ?_; first | refine q_pickT rfl rfl ?_ | refine q_pickF rfl rfl ?_) | (refine gq_b_sub ?_; (refine q_val rfl (fun w' hb => r_subN rfl rfl ?_ ?_) ?_; (first | omega | (simp <;> omega)); (first | omega | (simp <;> omega)))) | (refine gq_b_lss ?_; refine q_val rfl (fun w' hb => r_lss rfl rfl) ?_) | (refine gq_b_gtr ?_; refine q_val rfl (fun w' hb => r_gtr rfl rfl) ?_) | (refine gq_b_geq ?_; refine q_val rfl (fun w' hb => r_geq rfl rfl) ?_) | (refine gq_nilCheck ?_; refine q_val rfl (fun w' hb => r_nilCheck rfl) ?_) | (refine gq_un ?_; refine q_val rfl (fun w' hb => r_not rfl) ?_) | (refine gq_fieldAddr ?_; first | refine q_val rfl (fun w' hb => r_fieldAddrL rfl) ?_ | refine q_val rfl (fun w' hb => r_fieldAddr rfl) ?_) | (refine gq_indexAddr ?_; (refine q_val rfl (fun w' hb => r_indexAddr ((S.grow hb).rdRow (D := fGPosting) (i := 2) rfl) rfl rfl ?_ ?_) ?_; (first | omega | (simp <;> omega)); (first | omega | (simp <;> omega)))) | (refine gq_load ?_; first | (refine q_val rfl (fun w' hb => r_loadElemF ((S.grow hb).rdRow (D := fGPosting) (i := 2) rfl) rfl ?_ ?_ rfl) ?_; (first | omega | (simp <;> omega)); (first | omega | (simp <;> omega))) | refine q_val rfl (fun w' hb => r_loadVar (i := 0) (S.grow hb) rfl rfl rfl) ?_ | refine q_val rfl (fun w' hb => r_loadVarA (i := 0) (S.grow hb) rfl rfl rfl rfl) ?_ | refine q_val rfl (fun w' hb => r_loadVar (i := 1) (S.grow hb) rfl rfl rfl) ?_) | (refine gq_callV ?_; refine q_callV rfl (fun w' hb => r_call2 rfl rfl rfl) (fun w' hb => formed_is (ha1 ▸ hf)) ?_) | (refine g_box ?_; refine st_valE rfl (r_box S rfl) ?_; rintro _ w ⟨b, rfl, -, S'⟩; replace S := S'.front; clear S') | (refine ql_split rfl rfl (fun h => ?_) (fun h => ?_) <;> (fail_if_success (have hh : true = true := h)) <;> (fail_if_success (have hh : false = false := h)) <;> (try simp only [decide_eq_true_eq, decide_eq_false_iff_not, Bool.not_eq_true', Bool.not_eq_false', Int.not_lt, Int.not_le] at h) <;> (try (exfalso; omega)) <;> (try (exfalso; omega; done))) | (refine WP_cond rfl (fun h => ?_) (fun h => ?_) <;> (fail_if_success (have hh : true = true := h)) <;> (fail_if_success (have hh : false = false := h)) <;> (try simp only [decide_eq_true_eq, decide_eq_false_iff_not, Bool.not_eq_true', Bool.not_eq_false', Int.not_lt, Int.not_le] at h) <;> (try (exfalso; omega)) <;> (try (exfalso; omega; done))))
        all_goals exact end1 rfl rfl ⟨_, rfl, hno e S.tail⟩
    · have hE : takeB a1 L p = true := by unfold takeB revOk; rw [hf, hd, decide_eq_true h2, decide_eq_true (show p.Kind ≠ 3 from hk)]; rfl
      have hbe := @bkN_plain L p hk
      repeat' (first | refine WP_seq ?_ | refine WP_region ?_ | refine wl_nil ?_ | refine then_normal ?_ | refine WP_ret ?_ | refine WP_skip ?_ | refine WP_condF rfl ?_ | (refine WP_drawJ (fun w' => St w0 w' [.var b 84 p.enc, .var bl 119 (ledC acc (.slice A L.length c) cl (bkN L))]) [0,1,2,3,4,5,6] [7,8] [9,10,11,12] (by kernel_rfl) (by decide) (by decide +kernel) (fun w' hb => (S.grow hb).keep [true, true]) ?_; intro w hb; replace S := S.grow hb; clear hb) | refine WP_draw (by kernel_rfl) (by kernel_rfl) ?_ | (refine ql_nil ?_; intro w hb; replace S := S.grow hb; clear hb) | refine jq_nil ?_ | refine wj_nil ?_ | (refine g_move ?_; refine st_move rfl ?_) | (refine g_assign ?_; refine st_assign rfl ?_) | (refine g_b_eql ?_; refine st_val rfl (r_eql rfl rfl) ?_) | (refine g_nilCheck ?_; refine st_val rfl (r_nilCheck rfl) ?_) | (refine g_c_len ?_; refine st_val rfl (r_lenSlice rfl) ?_) | (refine g_fieldAddr ?_; refine st_val rfl (r_fieldAddrL rfl) ?_) | (refine g_load ?_; first | refine st_val rfl (r_loadVar (i := 0) S rfl rfl rfl) ?_ | refine st_val rfl (r_loadVar (i := 1) S rfl rfl rfl) ?_) | (refine gq_guard ?_; refine q_off rfl ?_) | (refine gq_move ?_; refine q_move rfl ?_) | (refine gq_pick ?_; first | refine q_pickT rfl rfl ?_ | refine q_pickF rfl rfl ?_) | (refine gq_b_sub ?_; (refine q_val rfl (fun w' hb => r_subN rfl rfl ?_ ?_) ?_; (first | omega | (simp <;> omega)); (first | omega | (simp <;> omega)))) | (refine gq_b_lss ?_; refine q_val rfl (fun w' hb => r_lss rfl rfl) ?_) | (refine gq_b_gtr ?_; refine q_val rfl (fun w' hb => r_gtr rfl rfl) ?_) | (refine gq_b_geq ?_; refine q_val rfl (fun w' hb => r_geq rfl rfl) ?_) | (refine gq_nilCheck ?_; refine q_val rfl (fun w' hb => r_nilCheck rfl) ?_) | (refine gq_un ?_; refine q_val rfl (fun w' hb => r_not rfl) ?_) | (refine gq_fieldAddr ?_; first | refine q_val rfl (fun w' hb => r_fieldAddrL rfl) ?_ | refine q_val rfl (fun w' hb => r_fieldAddr rfl) ?_) | (refine gq_indexAddr ?_; (refine q_val rfl (fun w' hb => r_indexAddr ((S.grow hb).rdRow (D := fGPosting) (i := 2) rfl) rfl rfl ?_ ?_) ?_; (first | omega | (simp <;> omega)); (first | omega | (simp <;> omega)))) | (refine gq_load ?_; first | (refine q_val rfl (fun w' hb => r_loadElemF ((S.grow hb).rdRow (D := fGPosting) (i := 2) rfl) rfl ?_ ?_ rfl) ?_; (first | omega | (simp <;> omega)); (first | omega | (simp <;> omega))) | refine q_val rfl (fun w' hb => r_loadVar (i := 0) (S.grow hb) rfl rfl rfl) ?_ | refine q_val rfl (fun w' hb => r_loadVarA (i := 0) (S.grow hb) rfl rfl rfl rfl) ?_ | refine q_val rfl (fun w' hb => r_loadVar (i := 1) (S.grow hb) rfl rfl rfl) ?_) | (refine gq_callV ?_; refine q_callV rfl (fun w' hb => r_call2 rfl rfl rfl) (fun w' hb => formed_is (ha1 ▸ hf)) ?_) | (refine gj_move ?_; refine jq_val rfl (fun w' hJ => ⟨rfl⟩) ?_) | (refine gj_assign ?_; refine jq_val rfl (fun w' hJ => ⟨rfl⟩) ?_) | (refine gj_nilCheck ?_; refine jq_val rfl (fun w' hJ => r_nilCheck rfl) ?_) | (refine gj_fieldAddr ?_; refine jq_val rfl (fun w' hJ => r_fieldAddrL rfl) ?_) | (refine gj_load ?_; first | refine jq_val rfl (fun w' hJ => r_loadVarA (i := 0) hJ rfl rfl rfl rfl) ?_ | refine jq_val rfl (fun w' hJ => r_loadVar (i := 1) hJ rfl rfl rfl) ?_) | (refine g_box ?_; refine st_valE rfl (r_box S rfl) ?_; rintro _ w ⟨b, rfl, -, S'⟩; replace S := S'.front; clear S') | (refine g_store ?_; first | (refine st_skipE rfl (r_storeVar (i := 0) S rfl rfl rfl rfl (of_decide_eq_true rfl) (of_decide_eq_true rfl)) ?_; intro w S'; replace S := S'; clear S') | (refine st_skipE rfl (r_storeVar (i := 1) S rfl rfl rfl rfl (of_decide_eq_true rfl) (of_decide_eq_true rfl)) ?_; intro w S'; replace S := S'; clear S')) | (refine wj_valE rfl (r_litF (D := fGPosting) [p] (fun y => .agg y.enc.toArray) S rfl rfl (fun _ => rfl) rfl (by decide) (by decide)) ?_; rintro _ w ⟨bq, rfl, -, hcl, S'⟩; refine ⟨S'.keep [true, true], ?_⟩; replace S := S'; clear S') | (refine wj_valE rfl (r_append1 (D := fGPosting) (i := 2) (b := bq) (x := p) S rfl rfl rfl (fl_one hcl) rfl (by decide) (one_po p) (by omega) (by omega)) ?_; rintro v2 w ⟨-, S'⟩; refine ⟨S'.keep [true, true], ?_⟩; replace S := S'; clear S' hcl; obtain ⟨A2, c2, hz⟩ := (S.rdRow (D := fGPosting) (i := 2) rfl).len; subst hz) | (refine ql_split rfl rfl (fun h => ?_) (fun h => ?_) <;> (fail_if_success (have hh : true = true := h)) <;> (fail_if_success (have hh : false = false := h)) <;> (try simp only [decide_eq_true_eq, decide_eq_false_iff_not, Bool.not_eq_true', Bool.not_eq_false', Int.not_lt, Int.not_le] at h) <;> (try (exfalso; omega)) <;> (try (exfalso; omega; done))) | (refine WP_cond rfl (fun h => ?_) (fun h => ?_) <;> (fail_if_success (have hh : true = true := h)) <;> (fail_if_success (have hh : false = false := h)) <;> (try simp only [decide_eq_true_eq, decide_eq_false_iff_not, Bool.not_eq_true', Bool.not_eq_false', Int.not_lt, Int.not_le] at h) <;> (try (exfalso; omega)) <;> (try (exfalso; omega; done))))
      all_goals
        rw [hbe] at S
        exact end1 rfl rfl ⟨_, rfl, by rw [ha1, hE]; rfl, by rw [ha1, hE, if_pos rfl]; exact ⟨_, S.tail.drop_last⟩⟩
  · have e : takeB a1 L p = false := by unfold takeB; rw [decide_eq_false h2]; rfl
    repeat' (first | refine WP_seq ?_ | refine WP_region ?_ | refine wl_nil ?_ | refine then_normal ?_ | refine then_ret ?_ | refine WP_ret ?_ | refine WP_condT rfl ?_ | refine WP_draw (by kernel_rfl) (by kernel_rfl) ?_ | (refine ql_nil ?_; intro w hb; replace S := S.grow hb; clear hb) | (refine g_move ?_; refine st_move rfl ?_) | (refine g_assign ?_; refine st_assign rfl ?_) | (refine g_nilCheck ?_; refine st_val rfl (r_nilCheck rfl) ?_) | (refine g_c_len ?_; refine st_val rfl (r_lenSlice rfl) ?_) | (refine g_fieldAddr ?_; refine st_val rfl (r_fieldAddrL rfl) ?_) | (refine g_load ?_; refine st_val rfl (r_loadVar (i := 1) S rfl rfl rfl) ?_) | (refine gq_guard ?_; refine q_off rfl ?_) | (refine gq_move ?_; refine q_move rfl ?_) | (refine gq_pick ?_; refine q_pickT rfl rfl ?_) | (refine gq_b_geq ?_; refine q_val rfl (fun w' hb => r_geq rfl rfl) ?_) | (refine g_box ?_; refine st_valE rfl (r_box S rfl) ?_; rintro _ w ⟨b, rfl, -, S'⟩; replace S := S'.front; clear S') | (refine ql_split rfl rfl (fun h => ?_) (fun h => ?_) <;> (fail_if_success (have hh : true = true := h)) <;> (fail_if_success (have hh : false = false := h)) <;> (try simp only [decide_eq_true_eq, decide_eq_false_iff_not, Bool.not_eq_true', Bool.not_eq_false', Int.not_lt, Int.not_le] at h) <;> (try (exfalso; omega)) <;> (try (exfalso; omega; done))))
    exact end1 rfl rfl ⟨_, rfl, hno e S.tail⟩
end Go.Proofs.YtijnbpnficcpmaaDoor
/- book.open. -/
namespace Go.Proofs.YtijnbpnficcpmaaDoor
open Go Go.Gx Go.RowKit
set_option linter.unusedVariables false
set_option linter.unusedSimpArgs false

/-- Whether postings can follow one another. -/
def allT (a1 : Int) (L : List GPosting) : Bool := (List.range L.length).all fun i => takeB a1 (L.take i) (nth L (i : Int))
theorem allT_of {a1 : Int} {L : List GPosting} (h : ∀ j : Int, 0 ≤ j → j < L.length → takeB a1 (L.take j.toNat) (nth L j) = true) : allT a1 L = true := by
  unfold allT
  rw [List.all_eq_true]
  intro k hk
  have := h k (by omega) (by have := List.mem_range.1 hk; omega)
  rwa [Int.toNat_natCast] at this
theorem allT_at {a1 : Int} {L : List GPosting} (h : allT a1 L = true) {j : Int} (h0 : 0 ≤ j) (hj : j < L.length) : takeB a1 (L.take j.toNat) (nth L j) = true := by
  unfold allT at h
  rw [List.all_eq_true] at h
  have := h j.toNat (List.mem_range.2 (by omega))
  rwa [show ((j.toNat : Nat) : Int) = j by omega] at this
theorem allT_no {a1 : Int} {L : List GPosting} {j : Int} (h0 : 0 ≤ j) (hj : j < L.length) (h : takeB a1 (L.take j.toNat) (nth L j) = false) : allT a1 L = false := by
  cases e : allT a1 L with
  | false => rfl
  | true => rw [allT_at e h0 hj] at h; cases h
abbrev bkV (acc : Int) (v : Value) (cl : Int) : List Value := [.int .i64 acc, v, .int .i64 cl]
def okAC (acc cl : Int) : Bool := inR acc 2 16 && inR cl 0 12
def OpenR (w0 : World) (acc cl : Int) (L : List GPosting) (r : Value) (w' : World) : Prop :=
  if allT (IntKind.i64.wrap (acc - 1)) L = true then ∃ (bl : Nat) (v' : Value), r = .tuple #[.pointer (some ⟨bl, 0, none⟩), .bool (okAC acc cl)] ∧ St w0 w' [ledO bl acc v' cl L, rowP v' L] else r = .tuple #[.pointer none, .bool false]
theorem bdLed {ρ : Operand → Value} {w : World} {d : Option Tmp} {ty : TypeId} {pos : String} {af : Array Edge} {g : Option (Nat × Bool)} {a0 : Operand} {acc cl : Int} (h0 : ρ a0 = .agg #[.int .i64 acc, .slice none 0 0, .int .i64 cl]) :
    Go.Gx.Runs Tryd.prog ρ ⟨d, .build 119 #[(0, a0)], ty, pos, af, g⟩ w (.ok (.value (.agg (ledC acc (.slice none 0 0) cl (bkN [])).toArray)) w) := ⟨by
  have e : (Instr.build 119 #[(0, .agg #[.int .i64 acc, .slice none 0 0, .int .i64 cl])]).run Tryd.prog w = .ok (.agg (ledC acc (.slice none 0 0) cl (bkN [])).toArray) w := by kernel_rfl
  simp only [execOp, List.map_toArray, List.map_cons, List.map_nil, h0]
  exact run_bind e⟩
set_option maxHeartbeats 1000000 in
theorem open_run {acc cl : Int} {L : List GPosting} {v : Value} {w0 : World} (hr : Rd fGPosting.ty w0 v L) (hl : L.length ≤ 1000000000) :
    CallsR Tryd.prog 68 #[.agg (bkV acc v cl).toArray] w0 (OpenR w0 acc cl L) := by
  have S := St.start w0
  obtain ⟨a1, ha1⟩ : ∃ a1, IntKind.i64.wrap (acc - 1) = a1 := ⟨_, rfl⟩
  obtain ⟨A, c, rfl⟩ := hr.len
  refine CallsR.mk ?_
  refine calls_enter Tryd.func68 rfl (by intro _ h; first | exact nomatch h.1 | (obtain ⟨_, h, _⟩ := h; exact nomatch h)) Tryd.ntmps68 rfl ?_
  repeat' (first | refine WP_seq ?_ | refine WP_region ?_ | refine wl_nil ?_ | refine then_normal ?_ | (refine g_assign ?_; refine st_assign rfl ?_) | (refine g_build ?_; refine st_val rfl (bd27_0_2 rfl rfl) ?_) | (refine g_fieldAddr ?_; refine st_val rfl (r_fieldAddrL rfl) ?_) | (refine g_load ?_; refine st_val rfl (r_loadVar (i := 0) S rfl rfl rfl) ?_) | (refine g_box ?_; refine st_valE rfl (r_box S rfl) ?_; rintro _ w ⟨b, rfl, -, S'⟩; replace S := S'; clear S'))
  refine st_val rfl (bdLed rfl) ?_
  repeat' (first | refine WP_seq ?_ | refine WP_region ?_ | refine wl_nil ?_ | refine then_normal ?_ | refine WP_block ?_ | (refine g_move ?_; refine st_move rfl ?_) | (refine g_assign ?_; refine st_assign rfl ?_) | (refine g_c_len ?_; refine st_val rfl (r_lenSlice rfl) ?_) | (refine g_fieldAddr ?_; refine st_val rfl (r_fieldAddrL rfl) ?_) | (refine g_load ?_; refine st_val rfl (r_loadVar (i := 0) S rfl rfl rfl) ?_) | (refine g_box ?_; refine st_valE rfl (r_box S rfl) ?_; rintro _ w ⟨b, rfl, -, S'⟩; replace S := S'; clear S'))
  rename_i _ b1
  obtain ⟨bl, rfl⟩ : ∃ x, x = b := ⟨_, rfl⟩
  replace S := S.nilRow fGPosting 84
  replace S : St w0 w [ledO bl acc (.slice none 0 0) cl [], rowP (.slice none 0 0) [], .var b1 27 (bkV acc (.slice A L.length c) cl)] := S.perm (List.perm_append_comm (l₁ := [_]) (l₂ := [_, _]))
  refine WP_loop (fun m σ w1 => ∃ (i : Int) (v' : Value), Has σ [(1, .pointer (some ⟨b1, 0, none⟩)), (4, .pointer (some ⟨bl, 0, none⟩)), (15, .slice A L.length c), (16, .int .i64 L.length), (17, .int .i64 i)] ∧ St w0 w1 [ledO bl acc v' cl (L.take i.toNat), rowP v' (L.take i.toNat), .var b1 27 (bkV acc (.slice A L.length c) cl)] ∧ 0 ≤ i ∧ i ≤ L.length ∧ (∀ j : Int, 0 ≤ j → j < i → takeB a1 (L.take j.toNat) (nth L j) = true) ∧ m = L.length - i.toNat) L.length ⟨0, .slice none 0 0, ⟨rfl, rfl, rfl, rfl, rfl, trivial⟩, S, by omega, by omega, fun j p q => by omega, by omega⟩ ?_
  clear S
  rintro m σ w1 ⟨i, v', hs, S, hi0, hi1, hall, rfl⟩
  refine WP_has hs ?_
  by_cases hi : i < L.length
  · have htl : (L.take i.toNat).length ≤ 1000000000 := by rw [List.length_take]; omega
    repeat' (first | refine WP_seq ?_ | refine WP_region ?_ | refine wl_nil ?_ | refine then_normal ?_ | refine WP_skip ?_ | refine WP_block ?_ | (refine g_move ?_; refine st_move rfl ?_) | (refine g_b_lss ?_; refine st_val rfl (r_lss rfl rfl) ?_) | (refine g_indexAddr ?_; (refine st_val rfl (r_indexAddr (hr.mono S.below) rfl rfl ?_ ?_) ?_; (first | omega | (simp <;> omega)); (first | omega | (simp <;> omega)))) | (refine g_load ?_; first | (refine st_val rfl (r_loadElem (hr.mono S.below) rfl ?_ ?_) ?_; (first | omega | (simp <;> omega)); (first | omega | (simp <;> omega))) | refine st_val rfl (r_loadVarA (i := 3) S rfl rfl rfl rfl) ?_) | (refine g_alloc ?_; refine st_valE rfl (r_alloc S) ?_; rintro _ w ⟨b, rfl, -, S'⟩; replace S := S'; clear S') | (refine g_store ?_; first | (refine st_skipE rfl (r_storeVar (i := 0) S rfl rfl rfl rfl (of_decide_eq_true rfl) (of_decide_eq_true rfl)) ?_; intro w S'; replace S := S'; clear S') | (refine st_skipE rfl (r_storeVar (i := 1) S rfl rfl rfl rfl (of_decide_eq_true rfl) (of_decide_eq_true rfl)) ?_; intro w S'; replace S := S'; clear S') | (refine st_skipE rfl (r_storeVar (i := 2) S rfl rfl rfl rfl (of_decide_eq_true rfl) (of_decide_eq_true rfl)) ?_; intro w S'; replace S := S'; clear S') | (refine st_skipE rfl (r_storeVar (i := 3) S rfl rfl rfl rfl (of_decide_eq_true rfl) (of_decide_eq_true rfl)) ?_; intro w S'; replace S := S'; clear S')) | (refine WP_cond rfl (fun h => ?_) (fun h => ?_) <;> (fail_if_success (have hh : true = true := h)) <;> (fail_if_success (have hh : false = false := h)) <;> (try simp only [decide_eq_true_eq, decide_eq_false_iff_not, Bool.not_eq_true', Bool.not_eq_false', Int.not_lt, Int.not_le] at h) <;> (try (exfalso; omega))))
    refine st_callW rfl (r_call2 rfl rfl rfl) (takes_run (p := nth L i) S htl) ?_
    rintro _ w ⟨rfl, hS⟩
    rw [ha1] at hS ⊢
    cases ht : takeB a1 (L.take i.toNat) (nth L i) with
    | false =>
      rw [ht, if_neg (by simp)] at hS
      have S := hS
      repeat' (first | refine WP_seq ?_ | refine WP_region ?_ | refine wl_nil ?_ | refine then_normal ?_ | refine then_ret ?_ | refine inB_ret ?_ | refine WP_ret ?_ | refine WP_condT rfl ?_ | (refine g_assign ?_; refine st_assign rfl ?_) | (refine g_un ?_; refine st_val rfl (r_not rfl) ?_))
      exact end2 rfl rfl rfl ⟨_, rfl, S.below, by unfold OpenR; rw [ha1, allT_no hi0 hi ht, if_neg (by simp)]; rfl⟩
    | true =>
      rw [ht, if_pos rfl] at hS
      obtain ⟨v2, S⟩ := hS
      have et : L.take i.toNat ++ [nth L i] = L.take (i + 1).toNat := by
        rw [show (i + 1).toNat = i.toNat + 1 by omega, List.take_add_one, nth_get hi0 hi]; rfl
      rw [et] at S
      repeat' (first | refine WP_region ?_ | refine wl_nil ?_ | refine then_normal ?_ | refine inB_normal ?_ | refine WP_skip ?_ | refine WP_condF rfl ?_ | (refine g_move ?_; refine st_move rfl ?_) | (refine g_b_add ?_; (refine st_val rfl (r_addN rfl rfl ?_ ?_) ?_; (first | omega | (simp <;> omega)); (first | omega | (simp <;> omega)))) | (refine g_un ?_; refine st_val rfl (r_not rfl) ?_))
      refine ⟨⟨_, ?_, i + 1, v2, ⟨rfl, rfl, rfl, rfl, rfl, trivial⟩, S.keep [true, true, true], by omega, by omega, fun j p q => ?_, rfl⟩⟩
      · omega
      · by_cases e : j = i
        · subst e; exact ht
        · exact hall j p (by omega)
  have hil : i.toNat = L.length := by omega
  rw [hil, List.take_length] at S
  have hT : allT a1 L = true := allT_of fun j p q => hall j p (by omega)
  repeat' (first | refine WP_seq ?_ | refine WP_region ?_ | refine wl_nil ?_ | refine then_normal ?_ | refine then_exit ?_ | refine inB_here ?_ | refine WP_ret ?_ | refine WP_exit ?_ | (refine g_guard ?_; refine st_off rfl ?_) | (refine g_move ?_; refine st_move rfl ?_) | (refine g_assign ?_; refine st_assign rfl ?_) | (refine g_pick ?_; first | refine st_pickT rfl rfl ?_ | refine st_pickF rfl rfl ?_) | (refine g_b_lss ?_; refine st_val rfl (r_lss rfl rfl) ?_) | (refine g_fieldAddr ?_; refine st_val rfl (r_fieldAddrL rfl) ?_) | (refine g_load ?_; refine st_val rfl (r_loadVar (i := 2) S rfl rfl rfl) ?_) | (refine g_callV ?_; (refine st_callV rfl (r_call3 rfl rfl rfl rfl) (isIn_spec) ?_; intro w hb; replace S := S.grow hb; clear hb)) | (refine wl_split rfl rfl (fun h => ?_) (fun h => ?_) <;> (fail_if_success (have hh : true = true := h)) <;> (fail_if_success (have hh : false = false := h)) <;> (try simp only [decide_eq_true_eq, decide_eq_false_iff_not, Bool.not_eq_true', Bool.not_eq_false', Int.not_lt, Int.not_le] at h) <;> (try (exfalso; omega))) | (refine WP_cond rfl (fun h => ?_) (fun h => ?_) <;> (fail_if_success (have hh : true = true := h)) <;> (fail_if_success (have hh : false = false := h)) <;> (try simp only [decide_eq_true_eq, decide_eq_false_iff_not, Bool.not_eq_true', Bool.not_eq_false', Int.not_lt, Int.not_le] at h) <;> (try (exfalso; omega))))
  all_goals
    refine end2 rfl rfl rfl ⟨_, rfl, S.below, ?_⟩
    unfold OpenR
    rw [ha1, hT, if_pos rfl]
    refine ⟨bl, v', ?_, S.keep [true, true]⟩
    unfold okAC
    rw [h]
    rfl
end Go.Proofs.YtijnbpnficcpmaaDoor
/- book.Valid, book's post. -/
namespace Go.Proofs.YtijnbpnficcpmaaDoor
open Go Go.Gx Go.RowKit
set_option linter.unusedVariables false
set_option linter.unusedSimpArgs false

def validBk (acc cl : Int) (L : List GPosting) : Bool := allT (IntKind.i64.wrap (acc - 1)) L && okAC acc cl
theorem validBk_is {acc cl : Int} {L : List GPosting} {b : Bool} {v : Value} {w0 : World} (hb : validBk acc cl L = b) (hr : Rd fGPosting.ty w0 v L) (hl : L.length ≤ 1000000000) :
    CallsV Tryd.prog 54 #[.agg (bkV acc v cl).toArray] w0 (.bool b) := by
  have S := St.start w0
  refine CallsV.mk ?_
  refine calls_enter Tryd.func54 rfl (by intro _ h; first | exact nomatch h.1 | (obtain ⟨_, h, _⟩ := h; exact nomatch h)) Tryd.ntmps54 rfl ?_
  repeat' (first | refine WP_seq ?_ | refine WP_region ?_ | refine wl_nil ?_ | refine then_normal ?_ | (refine g_assign ?_; refine st_assign rfl ?_) | (refine g_load ?_; refine st_val rfl (r_loadVarA (i := 0) S rfl rfl rfl rfl) ?_) | (refine g_box ?_; refine st_valE rfl (r_box S rfl) ?_; rintro _ w ⟨b, rfl, -, S'⟩; replace S := S'; clear S'))
  refine st_callR rfl (r_call1 rfl rfl) (open_run (acc := acc) (cl := cl) (hr.mono S.below) hl) ?_
  rintro r w hb' hR
  unfold OpenR at hR
  unfold validBk at hb
  cases hT : allT (IntKind.i64.wrap (acc - 1)) L with
  | false =>
    rw [hT, if_neg (by simp)] at hR
    subst hR
    have S := S.grow hb'
    rw [hT, Bool.false_and] at hb
    subst hb
    repeat' (first | refine WP_seq ?_ | refine WP_region ?_ | refine wl_nil ?_ | refine then_normal ?_ | refine WP_ret ?_ | (refine g_move ?_; refine st_move rfl ?_) | (refine g_assign ?_; refine st_assign rfl ?_) | (refine g_extract ?_; refine st_val rfl (r_extract rfl rfl) ?_))
    exact end1 rfl rfl ⟨rfl, S.below⟩
  | true =>
    rw [hT, if_pos rfl] at hR
    obtain ⟨bl, v', rfl, S'⟩ := hR
    have S := S.join S'
    rw [hT, Bool.true_and] at hb
    subst hb
    repeat' (first | refine WP_seq ?_ | refine WP_region ?_ | refine wl_nil ?_ | refine then_normal ?_ | refine WP_ret ?_ | (refine g_move ?_; refine st_move rfl ?_) | (refine g_assign ?_; refine st_assign rfl ?_) | (refine g_extract ?_; refine st_val rfl (r_extract rfl rfl) ?_))
    exact end1 rfl rfl ⟨rfl, S.below⟩
def postB (a1 cl : Int) (L : List GPosting) (p : GPosting) : Bool := decide (30 * cl ≤ p.Day) && takeB a1 L p
def PostR (w0 : World) (bl : Nat) (acc cl : Int) (L : List GPosting) (p : GPosting) (v : Value) (ex : List Ob) (r : Value) (w' : World) : Prop :=
  r = .bool (postB (IntKind.i64.wrap (acc - 1)) cl L p) ∧ if postB (IntKind.i64.wrap (acc - 1)) cl L p = true then ∃ v', St w0 w' (ledO bl acc v' cl (L ++ [p]) :: rowP v' (L ++ [p]) :: ex) else St w0 w' (ledO bl acc v cl L :: rowP v L :: ex)
theorem post_run {bl : Nat} {acc cl : Int} {L : List GPosting} {p : GPosting} {v : Value} {ex : List Ob} {w0 w : World} (S : St w0 w (ledO bl acc v cl L :: rowP v L :: ex)) (hl : L.length ≤ 1000000000) (hcl : 0 ≤ cl ∧ cl ≤ 12) :
    CallsW Tryd.prog 108 #[.pointer (some ⟨bl, 0, none⟩), .agg p.enc.toArray] w (PostR w0 bl acc cl L p v ex) := by
  obtain ⟨a1, ha1⟩ : ∃ a1, IntKind.i64.wrap (acc - 1) = a1 := ⟨_, rfl⟩
  refine CallsW.mk ?_
  refine calls_enter Tryd.func108 rfl (by intro _ h; first | exact nomatch h.1 | (obtain ⟨_, h, _⟩ := h; exact nomatch h)) Tryd.ntmps108 rfl ?_
  by_cases hd : 30 * cl ≤ p.Day
  · repeat' (first | refine WP_seq ?_ | refine WP_region ?_ | refine wl_nil ?_ | refine then_normal ?_ | refine WP_drawTail 12 (by kernel_rfl) (by decide +kernel) ?_ | (refine ql_nil ?_; intro w hb; replace S := S.grow hb; clear hb) | (refine g_assign ?_; refine st_assign rfl ?_) | (refine gq_move ?_; refine q_move rfl ?_) | (refine gq_b_mul ?_; (refine q_val rfl (fun w' hb => r_mulN rfl rfl ?_ ?_) ?_; (first | omega | (simp <;> omega)); (first | omega | (simp <;> omega)))) | (refine gq_b_geq ?_; refine q_val rfl (fun w' hb => r_geq rfl rfl) ?_) | (refine gq_nilCheck ?_; refine q_val rfl (fun w' hb => r_nilCheck rfl) ?_) | (refine gq_fieldAddr ?_; refine q_val rfl (fun w' hb => r_fieldAddrL rfl) ?_) | (refine gq_load ?_; first | refine q_val rfl (fun w' hb => r_loadVar (i := 0) (S.grow hb) rfl rfl rfl) ?_ | refine q_val rfl (fun w' hb => r_loadVarA (i := 0) (S.grow hb) rfl rfl rfl rfl) ?_ | refine q_val rfl (fun w' hb => r_loadVar (i := 1) (S.grow hb) rfl rfl rfl) ?_) | (refine g_box ?_; refine st_valE rfl (r_box S rfl) ?_; rintro _ w ⟨b, rfl, -, S'⟩; replace S := S'.front; clear S') | (refine ql_split rfl rfl (fun h => ?_) (fun h => ?_) <;> (fail_if_success (have hh : true = true := h)) <;> (fail_if_success (have hh : false = false := h)) <;> (try simp only [decide_eq_true_eq, decide_eq_false_iff_not, Bool.not_eq_true', Bool.not_eq_false', Int.not_lt, Int.not_le] at h) <;> (try (exfalso; omega)) <;> (try (exfalso; omega; done))))
    have S2 : St w0 w (ledO bl acc v cl L :: rowP v L :: .var b 84 p.enc :: ex) := S.perm (List.perm_middle (l₁ := [_, _])).symm
    refine st_callW rfl (r_call2 rfl rfl rfl) (takes_run (p := p) (ex := .var b 84 p.enc :: ex) S2 hl) ?_
    clear S S2
    rintro _ w ⟨rfl, hS⟩
    rw [ha1] at hS ⊢
    cases ht : takeB a1 L p with
    | false =>
      rw [ht, if_neg (by simp)] at hS
      have e : postB a1 cl L p = false := by unfold postB; rw [ht, Bool.and_false]
      repeat' (first | refine wl_nil ?_ | refine then_normal ?_ | refine WP_ret ?_ | (refine g_assign ?_; refine st_assign rfl ?_) | (refine g_pick ?_; refine st_pickT rfl rfl ?_))
      exact end1 rfl rfl ⟨_, rfl, by rw [ha1, e]; rfl, by rw [ha1, e, if_neg (by simp)]; exact (hS.perm (List.perm_middle (l₁ := [_, _]))).tail⟩
    | true =>
      rw [ht, if_pos rfl] at hS
      obtain ⟨v', hS⟩ := hS
      have e : postB a1 cl L p = true := by unfold postB; rw [ht, decide_eq_true hd]; rfl
      repeat' (first | refine wl_nil ?_ | refine then_normal ?_ | refine WP_ret ?_ | (refine g_assign ?_; refine st_assign rfl ?_) | (refine g_pick ?_; refine st_pickT rfl rfl ?_))
      exact end1 rfl rfl ⟨_, rfl, by rw [ha1, e]; rfl, by rw [ha1, e, if_pos rfl]; exact ⟨v', (hS.perm (List.perm_middle (l₁ := [_, _]))).tail⟩⟩
  · have e : postB a1 cl L p = false := by unfold postB; rw [decide_eq_false hd]; rfl
    repeat' (first | refine WP_seq ?_ | refine WP_region ?_ | refine wl_nil ?_ | refine then_normal ?_ | refine WP_ret ?_ | refine WP_drawTail 12 (by kernel_rfl) (by decide +kernel) ?_ | (refine ql_nil ?_; intro w hb; replace S := S.grow hb; clear hb) | (refine g_guard ?_; refine st_off rfl ?_) | (refine g_assign ?_; refine st_assign rfl ?_) | (refine g_pick ?_; refine st_pickF rfl rfl ?_) | (refine gq_guard ?_; refine q_off rfl ?_) | (refine gq_move ?_; refine q_move rfl ?_) | (refine gq_b_mul ?_; (refine q_val rfl (fun w' hb => r_mulN rfl rfl ?_ ?_) ?_; (first | omega | (simp <;> omega)); (first | omega | (simp <;> omega)))) | (refine gq_b_geq ?_; refine q_val rfl (fun w' hb => r_geq rfl rfl) ?_) | (refine gq_nilCheck ?_; refine q_val rfl (fun w' hb => r_nilCheck rfl) ?_) | (refine gq_fieldAddr ?_; refine q_val rfl (fun w' hb => r_fieldAddrL rfl) ?_) | (refine gq_load ?_; first | refine q_val rfl (fun w' hb => r_loadVar (i := 0) (S.grow hb) rfl rfl rfl) ?_ | refine q_val rfl (fun w' hb => r_loadVar (i := 1) (S.grow hb) rfl rfl rfl) ?_) | (refine g_box ?_; refine st_valE rfl (r_box S rfl) ?_; rintro _ w ⟨b, rfl, -, S'⟩; replace S := S'.front; clear S') | (refine ql_split rfl rfl (fun h => ?_) (fun h => ?_) <;> (fail_if_success (have hh : true = true := h)) <;> (fail_if_success (have hh : false = false := h)) <;> (try simp only [decide_eq_true_eq, decide_eq_false_iff_not, Bool.not_eq_true', Bool.not_eq_false', Int.not_lt, Int.not_le] at h) <;> (try (exfalso; omega)) <;> (try (exfalso; omega; done))))
    exact end1 rfl rfl ⟨_, rfl, by rw [ha1, e]; rfl, by rw [ha1, e, if_neg (by simp)]; exact S.tail⟩
end Go.Proofs.YtijnbpnficcpmaaDoor
/- book.Post. -/
namespace Go.Proofs.YtijnbpnficcpmaaDoor
open Go Go.Gx Go.RowKit
set_option linter.unusedVariables false
set_option linter.unusedSimpArgs false

/-- The first result lies in a variable, the others in slots. -/
theorem endCTT {P : Program} {fn : Func} {n : Nat} {R : Ending → World → Prop} {σ : Nat → Value} {w0 w : World} {t u x T sz b i : Nat} {os : List Ob} {T' : TypeId} {cs : List Value} {v2 v3 : Value} [hT : TF P T true sz]
    (hr : fn.results = #[.cell t T, .tmp u, .tmp x]) (hv : cut n σ t = .pointer (some ⟨b, 0, none⟩)) (hv2 : cut n σ u = v2) (hv3 : cut n σ x = v3) (S : St w0 w os) (hi : os[i]? = some (.var b T' cs)) (hl : cs.length = sz) (h : R (.returned (.tuple #[.agg cs.toArray, v2, v3])) w) : endQ P fn n R .ret σ w := by
  refine endC ?_ h
  unfold results
  rw [hr]
  refine (run_bind (mapM_three (b := .agg cs.toArray) (b2 := v2) (b3 := v3) (w1 := w) (w2 := w) (w3 := w) ?_ ?_ ?_)).trans rfl
  · show (do loadVar T (← asAddr ((Go.Gx.Fr n σ).tmps.getD t undef)) : Sem Value).run P w = _
    rw [Fr_getD, hv]
    exact loadVarA S hi hl
  · show (pure ((Go.Gx.Fr n σ).tmps.getD u undef) : Sem Value).run P w = _
    rw [Fr_getD, hv2]; rfl
  · show (pure ((Go.Gx.Fr n σ).tmps.getD x undef) : Sem Value).run P w = _
    rw [Fr_getD, hv3]; rfl
/-- A book that is handed back. -/
def BkR (w0 : World) (acc cl : Int) (L : List GPosting) (rest : List Value) (r : Value) (w' : World) : Prop := ∃ v', r = .tuple (.agg (bkV acc v' cl).toArray :: rest).toArray ∧ St w0 w' [rowP v' L]
def postOk (acc cl : Int) (L : List GPosting) (p : GPosting) : Bool := validBk acc cl L && postB (IntKind.i64.wrap (acc - 1)) cl L p
def PostBR (w0 : World) (acc cl : Int) (L : List GPosting) (p : GPosting) (r : Value) (w' : World) : Prop :=
  if postOk acc cl L p = true then BkR w0 acc cl (L ++ [p]) [.int .i64 L.length, .int .i64 0] r w' else r = .tuple #[.agg (bkV 0 (.slice none 0 0) 0).toArray, .int .i64 0, .int .i64 240]
set_option maxHeartbeats 1000000 in
theorem postB_run {acc cl : Int} {L : List GPosting} {p : GPosting} {v : Value} {w0 : World} (hr : Rd fGPosting.ty w0 v L) (hl : L.length ≤ 1000000000) :
    CallsR Tryd.prog 87 #[.agg (bkV acc v cl).toArray, .agg p.enc.toArray] w0 (PostBR w0 acc cl L p) := by
  have S := St.start w0
  obtain ⟨A, c, rfl⟩ := hr.len
  refine CallsR.mk ?_
  refine calls_enter Tryd.func87 rfl (by intro _ h; first | exact nomatch h.1 | (obtain ⟨_, h, _⟩ := h; exact nomatch h)) Tryd.ntmps87 rfl ?_
  repeat' (first | refine WP_seq ?_ | refine WP_region ?_ | refine wl_nil ?_ | refine then_normal ?_ | (refine g_assign ?_; refine st_assign rfl ?_) | (refine g_load ?_; refine st_val rfl (r_loadVarA (i := 0) S rfl rfl rfl rfl) ?_) | (refine g_box ?_; refine st_valE rfl (r_box S rfl) ?_; rintro _ w ⟨b, rfl, -, S'⟩; replace S := S'; clear S') | (refine g_alloc ?_; refine st_valE rfl (r_alloc S) ?_; rintro _ w ⟨b, rfl, -, S'⟩; replace S := S'; clear S'))
  rename_i _ b2 _ b3
  obtain ⟨b4, rfl⟩ : ∃ x, x = b := ⟨_, rfl⟩
  replace S : St w0 w [.var b2 27 (bkV acc (.slice A L.length c) cl), .var b3 84 p.enc, .var b4 27 (bkV 0 (.slice none 0 0) 0)] := S
  refine st_callR rfl (r_call1 rfl rfl) (open_run (acc := acc) (cl := cl) (hr.mono S.below) hl) ?_
  rintro r w hb' hR
  unfold OpenR at hR
  have hno : ∀ {r w'}, postOk acc cl L p = false → r = .tuple #[.agg (bkV 0 (.slice none 0 0) 0).toArray, .int .i64 0, .int .i64 240] → PostBR w0 acc cl L p r w' := fun h e => by unfold PostBR; rw [h, if_neg (by simp)]; exact e
  cases hT : allT (IntKind.i64.wrap (acc - 1)) L with
  | false =>
    rw [hT, if_neg (by simp)] at hR
    subst hR
    replace S := S.grow hb'
    have e : postOk acc cl L p = false := by unfold postOk validBk; rw [hT]; rfl
    repeat' (first | refine WP_seq ?_ | refine WP_region ?_ | refine wl_nil ?_ | refine then_normal ?_ | refine then_ret ?_ | refine WP_ret ?_ | refine WP_condT rfl ?_ | (refine g_guard ?_; refine st_off rfl ?_) | (refine g_move ?_; refine st_move rfl ?_) | (refine g_assign ?_; refine st_assign rfl ?_) | (refine g_pick ?_; refine st_pickT rfl rfl ?_) | (refine g_build ?_; refine st_val rfl (bd27_ ) ?_) | (refine g_un ?_; refine st_val rfl (r_not rfl) ?_) | (refine g_extract ?_; refine st_val rfl (r_extract rfl rfl) ?_) | (refine g_store ?_; first | (refine st_skipE rfl (r_storeVar (i := 0) S rfl rfl rfl rfl (of_decide_eq_true rfl) (of_decide_eq_true rfl)) ?_; intro w S'; replace S := S'; clear S') | (refine st_skipE rfl (r_storeVar (i := 1) S rfl rfl rfl rfl (of_decide_eq_true rfl) (of_decide_eq_true rfl)) ?_; intro w S'; replace S := S'; clear S') | (refine st_skipE rfl (r_storeVar (i := 2) S rfl rfl rfl rfl (of_decide_eq_true rfl) (of_decide_eq_true rfl)) ?_; intro w S'; replace S := S'; clear S')))
    exact endCTT rfl rfl rfl rfl S (i := 2) rfl rfl ⟨_, rfl, S.below, hno e rfl⟩
  | true =>
    rw [hT, if_pos rfl] at hR
    obtain ⟨bl, v', rfl, S'⟩ := hR
    replace S := S.join S'
    clear S'
    cases hA : okAC acc cl with
    | false =>
      have e : postOk acc cl L p = false := by unfold postOk validBk; rw [hA]; simp
      repeat' (first | refine WP_seq ?_ | refine WP_region ?_ | refine wl_nil ?_ | refine then_normal ?_ | refine then_ret ?_ | refine WP_ret ?_ | refine WP_condT rfl ?_ | (refine g_guard ?_; refine st_off rfl ?_) | (refine g_move ?_; refine st_move rfl ?_) | (refine g_assign ?_; refine st_assign rfl ?_) | (refine g_pick ?_; refine st_pickT rfl rfl ?_) | (refine g_build ?_; refine st_val rfl (bd27_ ) ?_) | (refine g_un ?_; refine st_val rfl (r_not rfl) ?_) | (refine g_extract ?_; refine st_val rfl (r_extract rfl rfl) ?_) | (refine g_store ?_; first | (refine st_skipE rfl (r_storeVar (i := 0) S rfl rfl rfl rfl (of_decide_eq_true rfl) (of_decide_eq_true rfl)) ?_; intro w S'; replace S := S'; clear S') | (refine st_skipE rfl (r_storeVar (i := 1) S rfl rfl rfl rfl (of_decide_eq_true rfl) (of_decide_eq_true rfl)) ?_; intro w S'; replace S := S'; clear S') | (refine st_skipE rfl (r_storeVar (i := 2) S rfl rfl rfl rfl (of_decide_eq_true rfl) (of_decide_eq_true rfl)) ?_; intro w S'; replace S := S'; clear S')))
      exact endCTT rfl rfl rfl rfl S (i := 2) rfl rfl ⟨_, rfl, S.below, hno e rfl⟩
    | true =>
      have hclr : 0 ≤ cl ∧ cl ≤ 12 := by unfold okAC at hA; rw [Bool.and_eq_true] at hA; exact of_decide_eq_true hA.2
      replace S : St w0 w (ledO bl acc v' cl L :: rowP v' L :: [.var b2 27 (bkV acc (.slice A L.length c) cl), .var b3 84 p.enc, .var b4 27 (bkV 0 (.slice none 0 0) 0)]) := S.perm (List.perm_append_comm (l₁ := [_, _, _]) (l₂ := [_, _]))
      repeat' (first | refine WP_seq ?_ | refine WP_region ?_ | refine wl_nil ?_ | refine then_normal ?_ | (refine g_move ?_; refine st_move rfl ?_) | (refine g_assign ?_; refine st_assign rfl ?_) | (refine g_un ?_; refine st_val rfl (r_not rfl) ?_) | (refine g_extract ?_; refine st_val rfl (r_extract rfl rfl) ?_) | (refine g_load ?_; refine st_val rfl (r_loadVarA (i := 3) S rfl rfl rfl rfl) ?_))
      refine st_callW rfl (r_call2 rfl rfl rfl) (post_run (p := p) S hl hclr) ?_
      clear S
      rintro _ w ⟨rfl, hS⟩
      cases ht : postB (IntKind.i64.wrap (acc - 1)) cl L p with
      | false =>
        rw [ht, if_neg (by simp)] at hS
        have S := hS
        have e : postOk acc cl L p = false := by unfold postOk; rw [ht, Bool.and_false]
        repeat' (first | refine WP_seq ?_ | refine WP_region ?_ | refine wl_nil ?_ | refine then_normal ?_ | refine then_ret ?_ | refine WP_ret ?_ | refine WP_condT rfl ?_ | (refine g_assign ?_; refine st_assign rfl ?_) | (refine g_pick ?_; refine st_pickF rfl rfl ?_) | (refine g_build ?_; refine st_val rfl (bd27_ ) ?_) | (refine g_un ?_; refine st_val rfl (r_not rfl) ?_) | (refine g_store ?_; first | (refine st_skipE rfl (r_storeVar (i := 0) S rfl rfl rfl rfl (of_decide_eq_true rfl) (of_decide_eq_true rfl)) ?_; intro w S'; replace S := S'; clear S') | (refine st_skipE rfl (r_storeVar (i := 1) S rfl rfl rfl rfl (of_decide_eq_true rfl) (of_decide_eq_true rfl)) ?_; intro w S'; replace S := S'; clear S') | (refine st_skipE rfl (r_storeVar (i := 2) S rfl rfl rfl rfl (of_decide_eq_true rfl) (of_decide_eq_true rfl)) ?_; intro w S'; replace S := S'; clear S') | (refine st_skipE rfl (r_storeVar (i := 3) S rfl rfl rfl rfl (of_decide_eq_true rfl) (of_decide_eq_true rfl)) ?_; intro w S'; replace S := S'; clear S') | (refine st_skipE rfl (r_storeVar (i := 4) S rfl rfl rfl rfl (of_decide_eq_true rfl) (of_decide_eq_true rfl)) ?_; intro w S'; replace S := S'; clear S')))
        exact endCTT rfl rfl rfl rfl S (i := 4) rfl rfl ⟨_, rfl, S.below, hno e rfl⟩
      | true =>
        rw [ht, if_pos rfl] at hS
        obtain ⟨v2, S⟩ := hS
        obtain ⟨A2, c2, hz⟩ := (S.rdRow (D := fGPosting) (i := 1) rfl).len; subst hz
        have e : postOk acc cl L p = true := by unfold postOk validBk; rw [ht, hT, hA]; rfl
        repeat' (first | refine WP_seq ?_ | refine wl_nil ?_ | refine then_normal ?_ | refine WP_ret ?_ | refine WP_skip ?_ | refine WP_condF rfl ?_ | (refine WP_drawJ (fun w' => St w0 w' [ledO bl acc (.slice A2 (L ++ [p]).length c2) cl (L ++ [p]), rowP (.slice A2 (L ++ [p]).length c2) (L ++ [p]), .var b2 27 (bkV acc (.slice A L.length c) cl)]) [0,1,2,3,4,5,6] [7] [8,9] (by kernel_rfl) (by decide) (by decide +kernel) (fun w' hb => (S.grow hb).keep [true, true, true]) ?_; intro w hb; replace S := S.grow hb; clear hb) | refine jq_nil ?_ | refine wj_nil ?_ | (refine g_assign ?_; refine st_assign rfl ?_) | (refine g_pick ?_; refine st_pickF rfl rfl ?_) | (refine g_un ?_; refine st_val rfl (r_not rfl) ?_) | (refine gj_move ?_; refine jq_val rfl (fun w' hJ => ⟨rfl⟩) ?_) | (refine gj_assign ?_; refine jq_val rfl (fun w' hJ => ⟨rfl⟩) ?_) | (refine gj_nilCheck ?_; refine jq_val rfl (fun w' hJ => r_nilCheck rfl) ?_) | (refine gj_c_len ?_; refine jq_val rfl (fun w' hJ => r_lenSlice rfl) ?_) | (refine gj_fieldAddr ?_; refine jq_val rfl (fun w' hJ => r_fieldAddrL rfl) ?_) | (refine gj_load ?_; first | refine jq_val rfl (fun w' hJ => r_loadVarA (i := 0) hJ rfl rfl rfl rfl) ?_ | refine jq_val rfl (fun w' hJ => r_loadVar (i := 2) hJ rfl rfl rfl) ?_) | (refine wj_skipE rfl (r_storeVar (i := 4) S rfl rfl rfl rfl (of_decide_eq_true rfl) (of_decide_eq_true rfl)) ?_; intro w S'; refine ⟨S'.keep [true, true, true], ?_⟩; replace S := S'; clear S'))
        refine endCTT rfl rfl rfl rfl S (i := 4) rfl rfl ⟨_, rfl, S.below, ?_⟩
        unfold PostBR
        rw [e, if_pos rfl]
        exact ⟨_, rfl, S.keep [false, true]⟩
end Go.Proofs.YtijnbpnficcpmaaDoor
/- book.Dispute. -/
namespace Go.Proofs.YtijnbpnficcpmaaDoor
open Go Go.Gx Go.RowKit
set_option linter.unusedVariables false
set_option linter.unusedSimpArgs false

def backP (L : List GPosting) (i day : Int) : GPosting := ⟨3, day, (nth L i).Creditor, (nth L i).Debtor, (nth L i).Amount, (nth L i).Subject, i⟩
def newP (L : List GPosting) (i day amount : Int) : GPosting := ⟨(nth L i).Kind, day, (nth L i).Debtor, (nth L i).Creditor, amount, (nth L i).Subject, (nth L i).Of⟩
def argD (L : List GPosting) (i amount : Int) : Bool := decide (0 ≤ i ∧ i < L.length ∧ 0 ≤ amount ∧ amount ≤ 1000000000000)
def dispOk (acc cl : Int) (L : List GPosting) (i day amount : Int) : Bool :=
  validBk acc cl L && (argD L i amount && (postB (IntKind.i64.wrap (acc - 1)) cl L (backP L i day) && (decide (amount ≤ 0) || postB (IntKind.i64.wrap (acc - 1)) cl (L ++ [backP L i day]) (newP L i day amount))))
def dispL (L : List GPosting) (i day amount : Int) : List GPosting := if 0 < amount then L ++ [backP L i day] ++ [newP L i day amount] else L ++ [backP L i day]
def DispR (w0 : World) (acc cl : Int) (L : List GPosting) (i day amount : Int) (r : Value) (w' : World) : Prop :=
  if dispOk acc cl L i day amount = true then BkR w0 acc cl (dispL L i day amount) [.int .i64 0] r w' else r = .tuple #[.agg (bkV 0 (.slice none 0 0) 0).toArray, .int .i64 240]
set_option maxHeartbeats 2000000 in
theorem disp_run {acc cl i day amount : Int} {L : List GPosting} {v : Value} {w0 : World} (hr : Rd fGPosting.ty w0 v L) (hl : L.length ≤ 1000000000) :
    CallsR Tryd.prog 86 #[.agg (bkV acc v cl).toArray, .int .i64 i, .int .i64 day, .int .i64 amount] w0 (DispR w0 acc cl L i day amount) := by
  have S := St.start w0
  obtain ⟨A, c, rfl⟩ := hr.len
  refine CallsR.mk ?_
  refine calls_enter Tryd.func86 rfl (by intro _ h; first | exact nomatch h.1 | (obtain ⟨_, h, _⟩ := h; exact nomatch h)) Tryd.ntmps86 rfl ?_
  repeat' (first | refine WP_seq ?_ | refine WP_region ?_ | refine wl_nil ?_ | refine then_normal ?_ | (refine g_assign ?_; refine st_assign rfl ?_) | (refine g_load ?_; refine st_val rfl (r_loadVarA (i := 0) S rfl rfl rfl rfl) ?_) | (refine g_box ?_; refine st_valE rfl (r_box S rfl) ?_; rintro _ w ⟨b, rfl, -, S'⟩; replace S := S'; clear S') | (refine g_alloc ?_; refine st_valE rfl (r_alloc S) ?_; rintro _ w ⟨b, rfl, -, S'⟩; replace S := S'; clear S'))
  rename_i _ b4
  obtain ⟨b8, rfl⟩ : ∃ x, x = b := ⟨_, rfl⟩
  replace S : St w0 w [.var b4 27 (bkV acc (.slice A L.length c) cl), .var b8 27 (bkV 0 (.slice none 0 0) 0)] := S
  refine st_callR rfl (r_call1 rfl rfl) (open_run (acc := acc) (cl := cl) (hr.mono S.below) hl) ?_
  rintro r w hb' hR
  unfold OpenR at hR
  have hno : ∀ {r w'}, dispOk acc cl L i day amount = false → r = .tuple #[.agg (bkV 0 (.slice none 0 0) 0).toArray, .int .i64 240] → DispR w0 acc cl L i day amount r w' := fun h e => by unfold DispR; rw [h, if_neg (by simp)]; exact e
  cases hT : allT (IntKind.i64.wrap (acc - 1)) L with
  | false =>
    rw [hT, if_neg (by simp)] at hR
    subst hR
    replace S := S.grow hb'
    have e : dispOk acc cl L i day amount = false := by unfold dispOk validBk; rw [hT]; rfl
    repeat' (first | refine WP_seq ?_ | refine WP_region ?_ | refine wl_nil ?_ | refine then_normal ?_ | refine then_ret ?_ | refine WP_ret ?_ | refine WP_condT rfl ?_ | (refine g_guard ?_; refine st_off rfl ?_) | (refine g_move ?_; refine st_move rfl ?_) | (refine g_assign ?_; refine st_assign rfl ?_) | (refine g_pick ?_; refine st_pickT rfl rfl ?_) | (refine g_build ?_; refine st_val rfl (bd27_ ) ?_) | (refine g_un ?_; refine st_val rfl (r_not rfl) ?_) | (refine g_extract ?_; refine st_val rfl (r_extract rfl rfl) ?_) | (refine g_store ?_; first | (refine st_skipE rfl (r_storeVar (i := 0) S rfl rfl rfl rfl (of_decide_eq_true rfl) (of_decide_eq_true rfl)) ?_; intro w S'; replace S := S'; clear S') | (refine st_skipE rfl (r_storeVar (i := 1) S rfl rfl rfl rfl (of_decide_eq_true rfl) (of_decide_eq_true rfl)) ?_; intro w S'; replace S := S'; clear S')))
    exact endCT rfl rfl rfl S (i := 1) rfl rfl ⟨_, rfl, S.below, hno e rfl⟩
  | true =>
    rw [hT, if_pos rfl] at hR
    obtain ⟨bl, v', rfl, S'⟩ := hR
    replace S := S.join S'
    clear S'
    cases hA : okAC acc cl with
    | false =>
      have e : dispOk acc cl L i day amount = false := by unfold dispOk validBk; rw [hA]; simp
      repeat' (first | refine WP_seq ?_ | refine WP_region ?_ | refine wl_nil ?_ | refine then_normal ?_ | refine then_ret ?_ | refine WP_ret ?_ | refine WP_condT rfl ?_ | (refine g_guard ?_; refine st_off rfl ?_) | (refine g_move ?_; refine st_move rfl ?_) | (refine g_assign ?_; refine st_assign rfl ?_) | (refine g_pick ?_; refine st_pickT rfl rfl ?_) | (refine g_build ?_; refine st_val rfl (bd27_ ) ?_) | (refine g_un ?_; refine st_val rfl (r_not rfl) ?_) | (refine g_extract ?_; refine st_val rfl (r_extract rfl rfl) ?_) | (refine g_store ?_; first | (refine st_skipE rfl (r_storeVar (i := 0) S rfl rfl rfl rfl (of_decide_eq_true rfl) (of_decide_eq_true rfl)) ?_; intro w S'; replace S := S'; clear S') | (refine st_skipE rfl (r_storeVar (i := 1) S rfl rfl rfl rfl (of_decide_eq_true rfl) (of_decide_eq_true rfl)) ?_; intro w S'; replace S := S'; clear S')))
      exact endCT rfl rfl rfl S (i := 1) rfl rfl ⟨_, rfl, S.below, hno e rfl⟩
    | true =>
      have hclr : 0 ≤ cl ∧ cl ≤ 12 := by unfold okAC at hA; rw [Bool.and_eq_true] at hA; exact of_decide_eq_true hA.2
      cases hD : argD L i amount with
      | false =>
        have e : dispOk acc cl L i day amount = false := by unfold dispOk; rw [hD]; simp
        have hD' := of_decide_eq_false hD
        repeat' (first | refine WP_seq ?_ | refine WP_region ?_ | refine wl_nil ?_ | refine then_normal ?_ | refine then_ret ?_ | refine WP_ret ?_ | refine WP_condT rfl ?_ | (refine g_guard ?_; refine st_off rfl ?_) | (refine g_move ?_; refine st_move rfl ?_) | (refine g_assign ?_; refine st_assign rfl ?_) | (refine g_pick ?_; first | refine st_pickT rfl rfl ?_ | refine st_pickF rfl rfl ?_) | (refine g_b_lss ?_; refine st_val rfl (r_lss rfl rfl) ?_) | (refine g_b_geq ?_; refine st_val rfl (r_geq rfl rfl) ?_) | (refine g_build ?_; refine st_val rfl (bd27_ ) ?_) | (refine g_un ?_; refine st_val rfl (r_not rfl) ?_) | (refine g_extract ?_; refine st_val rfl (r_extract rfl rfl) ?_) | (refine g_c_len ?_; refine st_val rfl (r_lenSlice rfl) ?_) | (refine g_fieldAddr ?_; refine st_val rfl (r_fieldAddrL rfl) ?_) | (refine g_load ?_; refine st_val rfl (r_loadVar (i := 0) S rfl rfl rfl) ?_) | (refine g_callV ?_; (refine st_callV rfl (r_call3 rfl rfl rfl rfl) (isIn_spec) ?_; intro w hb; replace S := S.grow hb; clear hb)) | (refine g_store ?_; first | (refine st_skipE rfl (r_storeVar (i := 0) S rfl rfl rfl rfl (of_decide_eq_true rfl) (of_decide_eq_true rfl)) ?_; intro w S'; replace S := S'; clear S') | (refine st_skipE rfl (r_storeVar (i := 1) S rfl rfl rfl rfl (of_decide_eq_true rfl) (of_decide_eq_true rfl)) ?_; intro w S'; replace S := S'; clear S')) | (refine wl_split rfl rfl (fun h => ?_) (fun h => ?_) <;> (fail_if_success (have hh : true = true := h)) <;> (fail_if_success (have hh : false = false := h)) <;> (try simp only [decide_eq_true_eq, decide_eq_false_iff_not, Bool.not_eq_true', Bool.not_eq_false', Int.not_lt, Int.not_le] at h) <;> (try (exfalso; omega)) <;> (try (exfalso; simp only [inR, decide_eq_true_eq, decide_eq_false_iff_not, Bool.not_eq_true', Bool.not_eq_false', Int.not_lt, Int.not_le] at *; omega; done))) | (refine WP_cond rfl (fun h => ?_) (fun h => ?_) <;> (fail_if_success (have hh : true = true := h)) <;> (fail_if_success (have hh : false = false := h)) <;> (try simp only [decide_eq_true_eq, decide_eq_false_iff_not, Bool.not_eq_true', Bool.not_eq_false', Int.not_lt, Int.not_le] at h) <;> (try (exfalso; omega)) <;> (try (exfalso; simp only [inR, decide_eq_true_eq, decide_eq_false_iff_not, Bool.not_eq_true', Bool.not_eq_false', Int.not_lt, Int.not_le] at *; omega; done))))
        all_goals exact endCT rfl rfl rfl S (i := 1) rfl rfl ⟨_, rfl, S.below, hno e rfl⟩
      | true =>
        have hD' := of_decide_eq_true hD
        have hin : inR amount 0 1000000000000 = true := decide_eq_true hD'.2.2
        replace S : St w0 w (ledO bl acc v' cl L :: rowP v' L :: [.var b4 27 (bkV acc (.slice A L.length c) cl), .var b8 27 (bkV 0 (.slice none 0 0) 0)]) := S.perm (List.perm_append_comm (l₁ := [_, _]) (l₂ := [_, _]))
        repeat' (first | refine WP_seq ?_ | refine WP_region ?_ | refine wl_nil ?_ | refine then_normal ?_ | refine WP_skip ?_ | refine WP_condF rfl ?_ | (refine g_move ?_; refine st_move rfl ?_) | (refine g_assign ?_; refine st_assign rfl ?_) | (refine g_pick ?_; refine st_pickF rfl rfl ?_) | (refine g_b_lss ?_; refine st_val rfl (r_lss rfl rfl) ?_) | (refine g_b_geq ?_; refine st_val rfl (r_geq rfl rfl) ?_) | (refine g_build ?_; refine st_val rfl (bd84_0_1_2_3_4_5_6 rfl rfl rfl rfl rfl rfl rfl) ?_) | (refine g_un ?_; refine st_val rfl (r_not rfl) ?_) | (refine g_extract ?_; refine st_val rfl (r_extract rfl rfl) ?_) | (refine g_c_len ?_; refine st_val rfl (r_lenSlice rfl) ?_) | (refine g_fieldAddr ?_; refine st_val rfl (r_fieldAddrL rfl) ?_) | (refine g_indexAddr ?_; (refine st_val rfl (r_indexAddr (hr.mono S.below) rfl rfl ?_ ?_) ?_; (first | omega | (simp <;> omega)); (first | omega | (simp <;> omega)))) | (refine g_load ?_; first | (refine st_val rfl (r_loadElem (hr.mono S.below) rfl ?_ ?_) ?_; (first | omega | (simp <;> omega)); (first | omega | (simp <;> omega))) | refine st_val rfl (r_loadVar (i := 2) S rfl rfl rfl) ?_ | refine st_val rfl (r_loadVar (i := 4) S rfl rfl rfl) ?_ | refine st_val rfl (r_loadVarA (i := 5) S rfl rfl rfl rfl) ?_) | (refine g_callV ?_; (refine st_callV rfl (r_call3 rfl rfl rfl rfl) (isIn_is hin) ?_; intro w hb; replace S := S.grow hb; clear hb)) | (refine g_alloc ?_; refine st_valE rfl (r_alloc S) ?_; rintro _ w ⟨b, rfl, -, S'⟩; replace S := S'; clear S') | (refine g_store ?_; first | (refine st_skipE rfl (r_storeVar (i := 0) S rfl rfl rfl rfl (of_decide_eq_true rfl) (of_decide_eq_true rfl)) ?_; intro w S'; replace S := S'; clear S') | (refine st_skipE rfl (r_storeVar (i := 1) S rfl rfl rfl rfl (of_decide_eq_true rfl) (of_decide_eq_true rfl)) ?_; intro w S'; replace S := S'; clear S') | (refine st_skipE rfl (r_storeVar (i := 2) S rfl rfl rfl rfl (of_decide_eq_true rfl) (of_decide_eq_true rfl)) ?_; intro w S'; replace S := S'; clear S') | (refine st_skipE rfl (r_storeVar (i := 3) S rfl rfl rfl rfl (of_decide_eq_true rfl) (of_decide_eq_true rfl)) ?_; intro w S'; replace S := S'; clear S') | (refine st_skipE rfl (r_storeVar (i := 4) S rfl rfl rfl rfl (of_decide_eq_true rfl) (of_decide_eq_true rfl)) ?_; intro w S'; replace S := S'; clear S') | (refine st_skipE rfl (r_storeVar (i := 5) S rfl rfl rfl rfl (of_decide_eq_true rfl) (of_decide_eq_true rfl)) ?_; intro w S'; replace S := S'; clear S')) | (refine wl_split rfl rfl (fun h => ?_) (fun h => ?_) <;> (fail_if_success (have hh : true = true := h)) <;> (fail_if_success (have hh : false = false := h)) <;> (try simp only [decide_eq_true_eq, decide_eq_false_iff_not, Bool.not_eq_true', Bool.not_eq_false', Int.not_lt, Int.not_le] at h) <;> (try (exfalso; omega)) <;> (try (exfalso; omega; done))))
        replace S : St w0 w (ledO bl acc v' cl L :: rowP v' L :: [.var b4 27 (bkV acc (.slice A L.length c) cl), .var b8 27 (bkV 0 (.slice none 0 0) 0), .var _ 84 (newP L i day amount).enc, .var _ 84 (backP L i day).enc]) := S
        obtain ⟨a1, ha1⟩ : ∃ a1, IntKind.i64.wrap (acc - 1) = a1 := ⟨_, rfl⟩
        refine st_callW rfl (r_call2 rfl rfl rfl) (post_run (p := backP L i day) S hl hclr) ?_
        clear S
        rintro _ w ⟨rfl, hS⟩
        rw [ha1] at hS ⊢
        cases hp1 : postB a1 cl L (backP L i day) with
        | false =>
          rw [hp1, if_neg (by simp)] at hS
          have S := hS
          have e : dispOk acc cl L i day amount = false := by unfold dispOk; rw [ha1, hp1]; simp
          repeat' (first | refine WP_seq ?_ | refine WP_region ?_ | refine wl_nil ?_ | refine then_normal ?_ | refine then_ret ?_ | refine WP_ret ?_ | refine WP_condT rfl ?_ | (refine g_guard ?_; refine st_off rfl ?_) | (refine g_move ?_; refine st_move rfl ?_) | (refine g_assign ?_; refine st_assign rfl ?_) | (refine g_pick ?_; refine st_pickT rfl rfl ?_) | (refine g_build ?_; refine st_val rfl (bd27_ ) ?_) | (refine g_un ?_; refine st_val rfl (r_not rfl) ?_) | (refine g_store ?_; first | (refine st_skipE rfl (r_storeVar (i := 0) S rfl rfl rfl rfl (of_decide_eq_true rfl) (of_decide_eq_true rfl)) ?_; intro w S'; replace S := S'; clear S') | (refine st_skipE rfl (r_storeVar (i := 1) S rfl rfl rfl rfl (of_decide_eq_true rfl) (of_decide_eq_true rfl)) ?_; intro w S'; replace S := S'; clear S') | (refine st_skipE rfl (r_storeVar (i := 2) S rfl rfl rfl rfl (of_decide_eq_true rfl) (of_decide_eq_true rfl)) ?_; intro w S'; replace S := S'; clear S') | (refine st_skipE rfl (r_storeVar (i := 3) S rfl rfl rfl rfl (of_decide_eq_true rfl) (of_decide_eq_true rfl)) ?_; intro w S'; replace S := S'; clear S') | (refine st_skipE rfl (r_storeVar (i := 4) S rfl rfl rfl rfl (of_decide_eq_true rfl) (of_decide_eq_true rfl)) ?_; intro w S'; replace S := S'; clear S') | (refine st_skipE rfl (r_storeVar (i := 5) S rfl rfl rfl rfl (of_decide_eq_true rfl) (of_decide_eq_true rfl)) ?_; intro w S'; replace S := S'; clear S')))
          exact endCT rfl rfl rfl S (i := 3) rfl rfl ⟨_, rfl, S.below, hno e rfl⟩
        | true =>
          rw [hp1, if_pos rfl] at hS
          obtain ⟨v2, S⟩ := hS
          have hlen2 : (L ++ [backP L i day]).length ≤ 1000000000 := by
            have h2 := hp1
            unfold postB takeB at h2
            simp only [Bool.and_eq_true, decide_eq_true_eq] at h2
            rw [List.length_append, List.length_singleton]; omega
          by_cases hm : 0 < amount
          · repeat' (first | (refine g_move ?_; refine st_move rfl ?_) | (refine g_b_gtr ?_; refine st_val rfl (r_gtr rfl rfl) ?_) | (refine g_un ?_; refine st_val rfl (r_not rfl) ?_) | (refine g_load ?_; refine st_val rfl (r_loadVarA (i := 4) S rfl rfl rfl rfl) ?_) | (refine wl_split rfl rfl (fun h => ?_) (fun h => ?_) <;> (fail_if_success (have hh : true = true := h)) <;> (fail_if_success (have hh : false = false := h)) <;> (try simp only [decide_eq_true_eq, decide_eq_false_iff_not, Bool.not_eq_true', Bool.not_eq_false', Int.not_lt, Int.not_le] at h) <;> (try (exfalso; omega)) <;> (try (exfalso; omega; done))))
            refine st_callW rfl (r_call2 rfl rfl rfl) (post_run (p := newP L i day amount) S hlen2 hclr) ?_
            clear S
            rintro _ w ⟨rfl, hS⟩
            rw [ha1] at hS ⊢
            cases hp2 : postB a1 cl (L ++ [backP L i day]) (newP L i day amount) with
            | false =>
              rw [hp2, if_neg (by simp)] at hS
              have S := hS
              have e : dispOk acc cl L i day amount = false := by unfold dispOk; rw [ha1, hp2, decide_eq_false (by omega)]; simp
              repeat' (first | refine WP_seq ?_ | refine WP_region ?_ | refine wl_nil ?_ | refine then_normal ?_ | refine then_ret ?_ | refine WP_ret ?_ | refine WP_condT rfl ?_ | (refine g_assign ?_; refine st_assign rfl ?_) | (refine g_pick ?_; first | refine st_pickT rfl rfl ?_ | refine st_pickF rfl rfl ?_) | (refine g_build ?_; refine st_val rfl (bd27_ ) ?_) | (refine g_un ?_; refine st_val rfl (r_not rfl) ?_) | (refine g_store ?_; first | (refine st_skipE rfl (r_storeVar (i := 0) S rfl rfl rfl rfl (of_decide_eq_true rfl) (of_decide_eq_true rfl)) ?_; intro w S'; replace S := S'; clear S') | (refine st_skipE rfl (r_storeVar (i := 1) S rfl rfl rfl rfl (of_decide_eq_true rfl) (of_decide_eq_true rfl)) ?_; intro w S'; replace S := S'; clear S') | (refine st_skipE rfl (r_storeVar (i := 2) S rfl rfl rfl rfl (of_decide_eq_true rfl) (of_decide_eq_true rfl)) ?_; intro w S'; replace S := S'; clear S') | (refine st_skipE rfl (r_storeVar (i := 3) S rfl rfl rfl rfl (of_decide_eq_true rfl) (of_decide_eq_true rfl)) ?_; intro w S'; replace S := S'; clear S') | (refine st_skipE rfl (r_storeVar (i := 4) S rfl rfl rfl rfl (of_decide_eq_true rfl) (of_decide_eq_true rfl)) ?_; intro w S'; replace S := S'; clear S') | (refine st_skipE rfl (r_storeVar (i := 5) S rfl rfl rfl rfl (of_decide_eq_true rfl) (of_decide_eq_true rfl)) ?_; intro w S'; replace S := S'; clear S')))
              exact endCT rfl rfl rfl S (i := 3) rfl rfl ⟨_, rfl, S.below, hno e rfl⟩
            | true =>
              rw [hp2, if_pos rfl] at hS
              obtain ⟨v3, S⟩ := hS
              obtain ⟨A2, c2, hz⟩ := (S.rdRow (D := fGPosting) (i := 1) rfl).len; subst hz
              have e : dispOk acc cl L i day amount = true := by unfold dispOk validBk; rw [ha1, hp1, hp2, hD, hA, ← ha1, hT]; simp
              repeat' (first | refine WP_seq ?_ | refine WP_region ?_ | refine wl_nil ?_ | refine then_normal ?_ | refine WP_ret ?_ | refine WP_skip ?_ | refine WP_condF rfl ?_ | (refine g_move ?_; refine st_move rfl ?_) | (refine g_assign ?_; refine st_assign rfl ?_) | (refine g_pick ?_; first | refine st_pickT rfl rfl ?_ | refine st_pickF rfl rfl ?_) | (refine g_nilCheck ?_; refine st_val rfl (r_nilCheck rfl) ?_) | (refine g_un ?_; refine st_val rfl (r_not rfl) ?_) | (refine g_fieldAddr ?_; refine st_val rfl (r_fieldAddrL rfl) ?_) | (refine g_load ?_; refine st_val rfl (r_loadVarA (i := 0) S rfl rfl rfl rfl) ?_) | (refine g_store ?_; first | (refine st_skipE rfl (r_storeVar (i := 0) S rfl rfl rfl rfl (of_decide_eq_true rfl) (of_decide_eq_true rfl)) ?_; intro w S'; replace S := S'; clear S') | (refine st_skipE rfl (r_storeVar (i := 1) S rfl rfl rfl rfl (of_decide_eq_true rfl) (of_decide_eq_true rfl)) ?_; intro w S'; replace S := S'; clear S') | (refine st_skipE rfl (r_storeVar (i := 2) S rfl rfl rfl rfl (of_decide_eq_true rfl) (of_decide_eq_true rfl)) ?_; intro w S'; replace S := S'; clear S') | (refine st_skipE rfl (r_storeVar (i := 3) S rfl rfl rfl rfl (of_decide_eq_true rfl) (of_decide_eq_true rfl)) ?_; intro w S'; replace S := S'; clear S') | (refine st_skipE rfl (r_storeVar (i := 4) S rfl rfl rfl rfl (of_decide_eq_true rfl) (of_decide_eq_true rfl)) ?_; intro w S'; replace S := S'; clear S') | (refine st_skipE rfl (r_storeVar (i := 5) S rfl rfl rfl rfl (of_decide_eq_true rfl) (of_decide_eq_true rfl)) ?_; intro w S'; replace S := S'; clear S')))
              refine endCT rfl rfl rfl S (i := 3) rfl rfl ⟨_, rfl, S.below, ?_⟩
              unfold DispR dispL
              rw [e, if_pos rfl, if_pos hm]
              exact ⟨_, rfl, S.keep [false, true]⟩
          · obtain ⟨A2, c2, hz⟩ := (S.rdRow (D := fGPosting) (i := 1) rfl).len; subst hz
            have e : dispOk acc cl L i day amount = true := by unfold dispOk validBk; rw [ha1, hp1, hD, hA, ← ha1, hT, decide_eq_true (by omega)]; simp
            repeat' (first | refine WP_seq ?_ | refine WP_region ?_ | refine wl_nil ?_ | refine then_normal ?_ | refine WP_ret ?_ | refine WP_skip ?_ | refine WP_condF rfl ?_ | (refine g_guard ?_; refine st_off rfl ?_) | (refine g_move ?_; refine st_move rfl ?_) | (refine g_assign ?_; refine st_assign rfl ?_) | (refine g_pick ?_; refine st_pickF rfl rfl ?_) | (refine g_b_gtr ?_; refine st_val rfl (r_gtr rfl rfl) ?_) | (refine g_nilCheck ?_; refine st_val rfl (r_nilCheck rfl) ?_) | (refine g_un ?_; refine st_val rfl (r_not rfl) ?_) | (refine g_fieldAddr ?_; refine st_val rfl (r_fieldAddrL rfl) ?_) | (refine g_load ?_; refine st_val rfl (r_loadVarA (i := 0) S rfl rfl rfl rfl) ?_) | (refine g_store ?_; first | (refine st_skipE rfl (r_storeVar (i := 0) S rfl rfl rfl rfl (of_decide_eq_true rfl) (of_decide_eq_true rfl)) ?_; intro w S'; replace S := S'; clear S') | (refine st_skipE rfl (r_storeVar (i := 1) S rfl rfl rfl rfl (of_decide_eq_true rfl) (of_decide_eq_true rfl)) ?_; intro w S'; replace S := S'; clear S') | (refine st_skipE rfl (r_storeVar (i := 2) S rfl rfl rfl rfl (of_decide_eq_true rfl) (of_decide_eq_true rfl)) ?_; intro w S'; replace S := S'; clear S') | (refine st_skipE rfl (r_storeVar (i := 3) S rfl rfl rfl rfl (of_decide_eq_true rfl) (of_decide_eq_true rfl)) ?_; intro w S'; replace S := S'; clear S') | (refine st_skipE rfl (r_storeVar (i := 4) S rfl rfl rfl rfl (of_decide_eq_true rfl) (of_decide_eq_true rfl)) ?_; intro w S'; replace S := S'; clear S') | (refine st_skipE rfl (r_storeVar (i := 5) S rfl rfl rfl rfl (of_decide_eq_true rfl) (of_decide_eq_true rfl)) ?_; intro w S'; replace S := S'; clear S')) | (refine wl_split rfl rfl (fun h => ?_) (fun h => ?_) <;> (fail_if_success (have hh : true = true := h)) <;> (fail_if_success (have hh : false = false := h)) <;> (try simp only [decide_eq_true_eq, decide_eq_false_iff_not, Bool.not_eq_true', Bool.not_eq_false', Int.not_lt, Int.not_le] at h) <;> (try (exfalso; omega)) <;> (try (exfalso; omega; done))))
            refine endCT rfl rfl rfl S (i := 3) rfl rfl ⟨_, rfl, S.below, ?_⟩
            unfold DispR dispL
            rw [e, if_pos rfl, if_neg hm]
            exact ⟨_, rfl, S.keep [false, true]⟩
end Go.Proofs.YtijnbpnficcpmaaDoor
/- The charge of a contract: a range over slices.Backward. -/
namespace Go.Proofs.YtijnbpnficcpmaaDoor
open Go Go.Gx Go.RowKit
set_option linter.unusedVariables false
set_option linter.unusedSimpArgs false

theorem r_yield2 {P : Program} {ρ : Operand → Value} {w w0 : World} {d : Option Tmp} {ty : TypeId} {pos : String} {af : Array Edge} {g : Option (Nat × Bool)} {fo a0 a1 : Operand} {v0 v1 : Value} {L i : Nat} {r : Loop} {p q : Tmp} {ats : Array TypeId} {os : List Ob} (S : St w0 w os) (hi : os[i]? = some (.raw L (.loop r)))
    (hf : ρ fo = .func (.yield L) #[] #[]) (h0 : ρ a0 = v0) (h1 : ρ a1 = v1) (hp : r.params = #[p, q]) :
    Go.Gx.Runs P ρ ⟨d, .call { callee := .value fo, args := #[a0, a1], argTypes := ats }, ty, pos, af, g⟩ w (.ok (.round L r.fn ((r.tmps.setIfInBounds p v0).setIfInBounds q v1) r.assign r.body) w) :=
  ⟨by
    have e := run_yield (P := P) (args := #[v0, v1]) (S.rawAt hi) (by rw [hp]; rfl)
    rw [hp] at e
    simp only [execOp, resolve, hf, Deferred.ofValue, List.map_toArray, List.map_cons, List.map_nil, h0, h1]
    simpa [invoke, bind, Sem.bind, pure] using e⟩
/-- What was taken back by postings. -/
def bmD : List GPosting → List (Int × Bool)
  | [] => []
  | q :: r => if q.Kind = 3 then mPut q.Of true (bmD r) else bmD r
theorem bmD_get {k : Int} : ∀ {r : List GPosting}, (mGet k (bmD r)).getD false = r.any fun q => decide (q.Kind = 3 ∧ q.Of = k)
  | [] => rfl
  | q :: r => by
    have ih := @bmD_get k r
    unfold bmD
    rw [List.any_cons, ← ih]
    by_cases hk : q.Kind = 3
    · rw [if_pos hk, mGet_put]
      by_cases e : k = q.Of
      · rw [if_pos e, decide_eq_true ⟨hk, e.symm⟩]; rfl
      · rw [if_neg e, decide_eq_false (fun h => e h.2.symm)]; rfl
    · rw [if_neg hk, decide_eq_false (fun h => hk h.1)]; rfl
def hitC (L : List GPosting) (id : Int) (n : Nat) : Bool := decide ((nth L (n : Int)).Kind ≠ 3 ∧ (nth L (n : Int)).Subject = id) && !((L.drop (n + 1)).any fun q => decide (q.Kind = 3 ∧ q.Of = (n : Int)))
/-- The last charge among the first postings. -/
def chg (L : List GPosting) (id : Int) : Nat → Int
  | 0 => -1
  | n + 1 => if hitC L id n then n else chg L id n
def chargeI (L : List GPosting) (id : Int) : Int := chg L id L.length
theorem drop_nth {L : List GPosting} {n : Nat} (h : n < L.length) : L.drop n = nth L (n : Int) :: L.drop (n + 1) := by
  have := nth_get (l := L) (i := (n : Int)) (by omega) (by omega)
  rw [Int.toNat_natCast] at this
  rw [List.drop_eq_getElem_cons h]
  congr 1
  rw [List.getElem?_eq_getElem h] at this
  exact Option.some.inj this
abbrev yldV (L : Nat) : Value := .func (.yield L) #[] #[]
/-- A call of yield with the n-th posting. -/
def YldP (w0 : World) (base : Nat → List Ob) (stop : Nat → List Ob) (hit : Nat → Bool) (P : List GPosting) (L : Nat) : Prop :=
  ∀ (n : Nat) (ex : List Ob) (w : World), n < P.length → St w0 w (base (n + 1) ++ ex) →
    ∀ {ρ : Operand → Value} {d : Option Tmp} {ty : TypeId} {pos : String} {af : Array Edge} {g : Option (Nat × Bool)} {fo a0 a1 : Operand} {ats : Array TypeId}, ρ fo = yldV L → ρ a0 = .int .i64 n → ρ a1 = .agg (nth P (n : Int)).enc.toArray →
      ∃ f tmps a2 b, Go.Gx.Runs Tryd.prog ρ ⟨d, .call { callee := .value fo, args := #[a0, a1], argTypes := ats }, ty, pos, af, g⟩ w (.ok (.round L f tmps a2 b) w) ∧
        RoundIn Fence.wide 0 Tryd.prog L f tmps a2 b w fun e w'' => ∃ u, e = .returned u ∧ ((hit n = true ∧ u = .bool false ∧ St w0 w'' (stop n ++ ex)) ∨ (hit n = false ∧ u = .bool true ∧ St w0 w'' (base n ++ ex)))
theorem st_yldP {w0 w : World} {base stop : Nat → List Ob} {ex : List Ob} {hit : Nat → Bool} {P : List GPosting} {L m N : Nat} {ops : Array Oper} {Q : Post} {σ : Nat → Value} {d : Option Tmp} {ty : TypeId} {pos : String} {af : Array Edge} {g : Option (Nat × Bool)} {fo a0 a1 : Operand} {ats : Array TypeId} {rest : List Oper}
    (hw : wantS ⟨d, .call { callee := .value fo, args := #[a0, a1], argTypes := ats }, ty, pos, af, g⟩ ops N σ = true) (hY : YldP w0 base stop hit P L) (hm : m < P.length) (S : St w0 w (base (m + 1) ++ ex)) (hf : opv (cut N σ) fo = yldV L) (h0 : opv (cut N σ) a0 = .int .i64 m) (h1 : opv (cut N σ) a1 = .agg (nth P (m : Int)).enc.toArray)
    (k : ∀ u w1, ((hit m = true ∧ u = .bool false ∧ St w0 w1 (stop m ++ ex)) ∨ (hit m = false ∧ u = .bool true ∧ St w0 w1 (base m ++ ex))) → wl Tryd.prog N ops Q rest (updO σ d u) w1) :
    wl Tryd.prog N ops Q (⟨d, .call { callee := .value fo, args := #[a0, a1], argTypes := ats }, ty, pos, af, g⟩ :: rest) σ w := by
  obtain ⟨f, tm, a2, b1, hrun, hround⟩ := hY m ex w hm S (ρ := opv (cut N σ)) (d := d) (ty := ty) (pos := pos) (af := af) (g := g) (fo := fo) (a0 := a0) (a1 := a1) (ats := ats) hf h0 h1
  exact st_round hw hrun hround k
/-- The last of the first n that is hit. -/
def lastH (hit : Nat → Bool) : Nat → Option Nat
  | 0 => none
  | n + 1 => if hit n then some n else lastH hit n
theorem bwd_run {w0 w : World} {base stop : Nat → List Ob} {ex : List Ob} {hit : Nat → Bool} {P : List GPosting} {L bv : Nat} {v : Value} (hY : YldP w0 base stop hit P L) (hr : Rd fGPosting.ty w0 v P) (hl : P.length ≤ 1000000000)
    (S : St w0 w (.var bv 25 [v] :: (base P.length ++ ex))) :
    CallsW Tryd.prog 114 #[yldV L, .pointer (some ⟨bv, 0, none⟩)] w fun u w' => match lastH hit P.length with
      | none => St w0 w' (.var bv 25 [v] :: (base 0 ++ ex))
      | some n => St w0 w' (.var bv 25 [v] :: (stop n ++ ex)) := by
  refine CallsW.mk ?_
  obtain ⟨A, c, rfl⟩ := hr.len
  refine calls_enter Tryd.func114 rfl (by intro _ h; first | exact nomatch h.1 | (obtain ⟨_, h, _⟩ := h; exact nomatch h)) Tryd.ntmps114 rfl ?_
  repeat' (first | refine WP_seq ?_ | refine WP_region ?_ | refine wl_nil ?_ | refine then_normal ?_ | refine WP_block ?_ | (refine g_assign ?_; refine st_assign rfl ?_) | (refine g_b_sub ?_; (refine st_val rfl (r_subN rfl rfl ?_ ?_) ?_; (first | omega | (simp <;> omega)); (first | omega | (simp <;> omega)))) | (refine g_c_len ?_; refine st_val rfl (r_lenSlice rfl) ?_) | (refine g_load ?_; refine st_val rfl (r_loadVar (i := 0) S rfl rfl rfl) ?_))
  refine WP_loop (fun m σ w1 => ∃ x : Int, Has σ [(0, yldV L), (1, .pointer (some ⟨bv, 0, none⟩)), (3, .int .i64 x)] ∧ x = (m : Int) - 1 ∧ St w0 w1 (.var bv 25 [.slice A P.length c] :: (base m ++ ex)) ∧ m ≤ P.length ∧ lastH hit P.length = lastH hit m) P.length ?_ ?_
  · exact ⟨_, ⟨rfl, rfl, rfl, trivial⟩, rfl, S, Nat.le_refl _, rfl⟩
  clear S
  rintro m σ w1 ⟨x, hs, hx, S, hm, hlast⟩
  refine WP_has hs ?_
  cases m with
  | zero =>
    repeat' (first | refine WP_seq ?_ | refine WP_region ?_ | refine wl_nil ?_ | refine then_normal ?_ | (refine g_move ?_; refine st_move rfl ?_) | (refine g_b_geq ?_; refine st_val rfl (r_geq rfl rfl) ?_))
    refine WP_cond rfl (fun h => absurd (of_decide_eq_true h) (by omega)) (fun h => ?_)
    refine WP_exit ?_
    refine then_exit ?_
    refine then_exit ?_
    refine inB_here ?_
    refine end0 rfl ⟨_, rfl, ?_⟩
    rw [hlast]
    exact S
  | succ m =>
    obtain rfl : x = (m : Int) := by omega
    clear hx
    repeat' (first | refine WP_seq ?_ | refine WP_region ?_ | refine wl_nil ?_ | refine then_normal ?_ | refine WP_skip ?_ | refine WP_block ?_ | refine WP_condT rfl ?_ | (refine g_move ?_; refine st_move rfl ?_) | (refine g_b_geq ?_; refine st_val rfl (r_geq rfl rfl) ?_) | (refine g_indexAddr ?_; (refine st_val rfl (r_indexAddr (hr.mono S.below) rfl rfl ?_ ?_) ?_; (first | omega | (simp <;> omega)); (first | omega | (simp <;> omega)))) | (refine g_load ?_; first | (refine st_val rfl (r_loadElem (hr.mono S.below) rfl ?_ ?_) ?_; (first | omega | (simp <;> omega)); (first | omega | (simp <;> omega))) | refine st_val rfl (r_loadVar (i := 0) S rfl rfl rfl) ?_))
    refine st_yldP rfl hY (by omega) (S.perm (List.perm_middle (l₁ := base (m + 1))).symm) rfl rfl rfl ?_
    clear S
    rintro u w (⟨hh, rfl, S⟩ | ⟨hh, rfl, S⟩)
    · repeat' (first | refine wl_nil ?_ | refine then_normal ?_ | refine then_ret ?_ | refine inB_ret ?_ | refine WP_ret ?_ | refine WP_condT rfl ?_ | (refine g_un ?_; refine st_val rfl (r_not rfl) ?_))
      refine end0r rfl ⟨_, rfl, ?_⟩
      have e : lastH hit P.length = some m := by rw [hlast, lastH, if_pos hh]
      rw [e]
      exact S.perm (List.perm_middle (l₁ := stop m))
    · repeat' (first | refine WP_region ?_ | refine wl_nil ?_ | refine then_normal ?_ | refine inB_normal ?_ | refine WP_skip ?_ | refine WP_condF rfl ?_ | (refine g_move ?_; refine st_move rfl ?_) | (refine g_assign ?_; refine st_assign rfl ?_) | (refine g_b_sub ?_; (refine st_val rfl (r_subN rfl rfl ?_ ?_) ?_; (first | omega | (simp <;> omega)); (first | omega | (simp <;> omega)))) | (refine g_un ?_; refine st_val rfl (r_not rfl) ?_))
      refine nextI.mk ⟨m, by omega, _, ⟨rfl, rfl, rfl, trivial⟩, rfl, S.perm (List.perm_middle (l₁ := base m)), by omega, ?_⟩
      rw [hlast, lastH, if_neg (by rw [hh]; simp)]
end Go.Proofs.YtijnbpnficcpmaaDoor
