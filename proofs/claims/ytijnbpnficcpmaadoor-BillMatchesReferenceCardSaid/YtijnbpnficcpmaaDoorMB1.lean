/- Merged texts: BA, BB, BC, BD, BE, BF, BG, BH, BI, BJ, BK, BL, BM, BN, BO, PA. -/
import Derived.Test.YtijnbpnficcpmaaDoorMC1
import Derived.Test.YtijnbpnficcpmaaDoorMG2
import Derived.Test.YtijnbpnficcpmaaDoorMC2
set_option linter.unusedVariables false
set_option linter.unusedSimpArgs false
namespace Go.Proofs.YtijnbpnficcpmaaDoor
open Go Go.Gx Go.RowKit

def insG (c : Int → Int → Bool) (out : List Int) (i : Int) : List Int := out.takeWhile (fun e => !c i e) ++ i :: out.dropWhile (fun e => !c i e)
def ordG (c : Int → Int → Bool) : Nat → List Int
 | 0 => []
 | n + 1 => insG c (ordG c n) n
theorem Z80 {c : Int → Int → Bool} (hc : SW c) : ∀ n, (ordG c n).Perm (tab idf n) ∧ (ordG c n).Pairwise (RS c)
 | 0 => ⟨List.Perm.refl _, List.Pairwise.nil⟩
 | n + 1 => by
  obtain ⟨hp, hw⟩ := Z80 hc n
  have hlt : ∀ y ∈ ordG c n, y < (n : Int) := fun y hy => by
   have := hp.mem_iff.1 hy
   unfold tab at this
   obtain ⟨k, hk, rfl⟩ := List.mem_map.1 this
   have := List.mem_range.1 hk; simp only [idf]; omega
  have e : (ordG c n).takeWhile (fun e => !c n e) ++ (ordG c n).dropWhile (fun e => !c n e) = ordG c n := List.takeWhile_append_dropWhile
  refine ⟨?_, ?_⟩
  ·show (insG c (ordG c n) n).Perm _
   unfold insG
   refine List.perm_middle.trans ?_
   have et : tab idf (n + 1) = tab idf n ++ [(n : Int)] := by unfold tab; rw [List.range_succ, List.map_append]; rfl
   rw [e, et]
   exact (List.perm_append_singleton _ _).symm.trans (hp.append_right _)
  ·show (insG c (ordG c n) n).Pairwise _
   unfold insG
   refine Z9z hc (by rw [e]; exact hw) (by rw [e]; exact hlt) (fun A' y h => Z7s h) (Z7z hc hw hlt)
theorem Zjq {c : Int → Int → Bool} (hc : SW c) {n : Nat} {l : List Int} (hp : l.Perm (tab idf n)) (hw : l.Pairwise (RS c)) : l = ordG c n :=
 Zfg hc (hp.trans (Z80 hc n).1.symm) hw (Z80 hc n).2
theorem mem_tab {n : Nat} {x : Int} : x ∈ tab idf n ↔ 0 ≤ x ∧ x < n := by
 unfold tab
 rw [List.mem_map]
 constructor
 ·rintro ⟨k, hk, rfl⟩; have := List.mem_range.1 hk; simp only [idf]; omega
 ·rintro ⟨a, b⟩; exact ⟨x.toNat, List.mem_range.2 (by omega), by simp only [idf]; omega⟩
theorem Zgr {c : Int → Int → Bool} (hc : SW c) {n : Nat} {x : Int} : x ∈ ordG c n ↔ 0 ≤ x ∧ x < n := ((Z80 hc n).1.mem_iff).trans mem_tab
theorem ordG_len {c : Int → Int → Bool} (hc : SW c) {n : Nat} : (ordG c n).length = n := by rw [(Z80 hc n).1.length_eq, Z2s]
theorem pw_nodup {c : Int → Int → Bool} (hc : SW c) {l : List Int} (h : l.Pairwise (RS c)) : l.Nodup := h.imp fun {a b} hr e => by subst e; exact Zgj hc hr hr
theorem Zi5 {c : Int → Int → Bool} (hc : SW c) {n : Nat} : (ordG c n).Nodup := pw_nodup hc (Z80 hc n).2

theorem tab_succ {f : Nat → Int} {n : Nat} : tab f (n + 1) = tab f n ++ [f n] := by unfold tab; rw [List.range_succ, List.map_append]; rfl
def sumN (f : Nat → Int) : Nat → Int
 | 0 => 0
 | n + 1 => sumN f n + f n
theorem Z7b {f g : Nat → Int} : ∀ {n : Nat}, (∀ k, k < n → f k = g k) → sumN f n = sumN g n
 | 0, _ => rfl
 | n + 1, h => by rw [sumN, sumN, Z7b fun k hk => h k (by omega), h n (by omega)]
theorem Zgs (f g : Nat → Int) : ∀ n : Nat, sumN (fun k => f k + g k) n = sumN f n + sumN g n
 | 0 => rfl
 | n + 1 => by rw [sumN, sumN, sumN, Zgs f g n]; omega
theorem Zd4 (a : Int) (f : Nat → Int) : ∀ n : Nat, sumN (fun k => a * f k) n = a * sumN f n
 | 0 => by simp [sumN]
 | n + 1 => by rw [sumN, sumN, Zd4 a f n, Int.mul_add]
theorem Zb6 {f g : Nat → Int} : ∀ {n : Nat}, (∀ k, k < n → f k ≤ g k) → sumN f n ≤ sumN g n
 | 0, _ => by simp [sumN]
 | n + 1, h => by have h1 := Zb6 (n := n) fun k hk => h k (by omega); have h2 := h n (by omega); rw [sumN, sumN]; omega
theorem Z5r {f : Nat → Int} {n : Nat} (h : ∀ k, k < n → 0 ≤ f k) : 0 ≤ sumN f n := by
 have := @Zb6 (fun _ => 0) f n h
 have e : ∀ m, sumN (fun _ => (0 : Int)) m = 0 := fun m => by
  induction m with
  | zero => rfl
  | succ m ih => rw [sumN, ih]; rfl
 rw [e] at this; exact this
theorem Z66 (a : Int) : ∀ n : Nat, sumN (fun _ => a) n = a * n
 | 0 => by simp [sumN]
 | n + 1 => by rw [sumN, Z66 a n, Int.natCast_succ, Int.mul_add, Int.mul_one]
theorem Zed {f : Nat → Int} {n : Nat} (h : ∀ k, k < n → 0 ≤ f k) (hz : sumN f n = 0) : ∀ k, k < n → f k = 0 := by
 induction n with
 | zero => intro k hk; omega
 | succ n ih =>
  have h1 := @Z5r f n fun k hk => h k (by omega)
  have h2 := h n (by omega)
  rw [sumN] at hz
  intro k hk
  by_cases e : k = n
  ·subst e; omega
  ·exact ih (fun k hk => h k (by omega)) (by omega) k (by omega)
abbrev sumW (w : List Int) : Int := sumN (fun k => nth w (k : Int)) w.length
def quoW (t s : Int) (w : List Int) (i : Int) : Int := t * nth w i / s
def remW (t s : Int) (w : List Int) (i : Int) : Int := t * nth w i % s
def cmpW (t s : Int) (w : List Int) (x y : Int) : Int := cmp1 (remW t s w y) (remW t s w x)
def cW (t s : Int) (w : List Int) (x y : Int) : Bool := decide (cmpW t s w x y < 0)
theorem Zee {t s : Int} {w : List Int} {x y : Int} : cW t s w x y = true ↔ remW t s w y < remW t s w x := by
 unfold cW cmpW cmp1
 rw [decide_eq_true_iff]
 (repeat' split) <;> omega
theorem Zi6 (t s : Int) (w : List Int) : SW (cW t s w) where
 irrefl x := by
  cases h : cW t s w x x with
  | false => rfl
  | true => rw [Zee] at h; omega
 trans x y z h1 h2 := by rw [Zee] at *; omega
 ntrans x y z h1 h2 := by
  cases h : cW t s w x z with
  | false => rfl
  | true =>
   have k1 : ¬ cW t s w x y = true := by rw [h1]; simp
   have k2 : ¬ cW t s w y z = true := by rw [h2]; simp
   rw [Zee] at h k1 k2; omega
def Zbu (t s : Int) (w : List Int) : Int := t - sumN (fun k => quoW t s w k) w.length
def Z36 (t s : Int) (w : List Int) : List Int := ordG (cW t s w) w.length
def shP (t s : Int) (w : List Int) (p : Nat) : List Int := tab (fun k => quoW t s w k + if (k : Int) ∈ (Z36 t s w).take p then 1 else 0) w.length
def shW (t : Int) (w : List Int) : List Int := shP t (sumW w) w (Zbu t (sumW w) w).toNat
section
variable {t s : Int} {w : List Int}
theorem left_eq (hs : 0 < s) (e : s = sumW w) : sumN (fun k => remW t s w k) w.length = s * Zbu t s w := by
 have h1 : sumN (fun k => t * nth w (k : Int)) w.length = t * s := by rw [Zd4, e]
 have h2 : sumN (fun k => t * nth w (k : Int)) w.length = s * sumN (fun k => quoW t s w k) w.length + sumN (fun k => remW t s w k) w.length := by
  rw [← Zd4, ← Zgs]
  exact Z7b fun k hk => (Int.mul_ediv_add_emod ..).symm
 unfold Zbu
 rw [Int.mul_sub, Int.mul_comm s t]
 omega
theorem Zjr (hs : 0 < s) (k : Int) : 0 ≤ remW t s w k ∧ remW t s w k < s := ⟨Int.emod_nonneg _ (by omega), Int.emod_lt_of_pos _ hs⟩
theorem Zgt (hs : 0 < s) (e : s = sumW w) : 0 ≤ Zbu t s w ∧ Zbu t s w ≤ w.length := by
 have h := @left_eq t s w hs e
 have h0 := @Z5r (fun k => remW t s w k) w.length fun k _ => (Zjr hs k).1
 have h1 := @Zb6 (fun k => remW t s w k) (fun _ => s) w.length fun k _ => by have := (@Zjr t s w hs k).2; omega
 rw [Z66] at h1
 rw [h] at h0 h1
 exact ⟨Int.nonneg_of_mul_nonneg_right h0 hs, Int.le_of_mul_le_mul_left h1 hs⟩
theorem take_le {p : Nat} {i j : Int} (hi : i ∈ (Z36 t s w).take p) (hj : 0 ≤ j ∧ j < w.length) (hn : j ∉ (Z36 t s w).take p) : remW t s w j < remW t s w i ∨ remW t s w j = remW t s w i ∧ i < j := by
 have hw := (Z80 (Zi6 t s w) w.length).2
 have hm : j ∈ Z36 t s w := (Zgr (Zi6 t s w)).2 hj
 rw [show ordG (cW t s w) w.length = (Z36 t s w).take p ++ (Z36 t s w).drop p from (List.take_append_drop ..).symm] at hw
 have hd : j ∈ (Z36 t s w).drop p := by
  rw [← List.take_append_drop p (Z36 t s w)] at hm
  exact (List.mem_append.1 hm).resolve_left hn
 rcases (List.pairwise_append.1 hw).2.2 i hi j hd with h | ⟨h, h2⟩
 ·exact .inl (Zee.1 h)
 ·have : ¬ cW t s w j i = true := by rw [h]; simp
  rw [Zee] at this
  by_cases e : remW t s w j < remW t s w i
  ·exact .inl e
  ·exact .inr ⟨by omega, h2⟩
theorem Z4l : (Z36 t s w).length = w.length := ordG_len (Zi6 t s w)
theorem Z6v {x : Int} : x ∈ Z36 t s w ↔ 0 ≤ x ∧ x < w.length := Zgr (Zi6 t s w)
theorem Zc7 {p : Nat} (hp : p < w.length) : nth (Z36 t s w) (p : Int) ∉ (Z36 t s w).take p := by
 have hn : (Z36 t s w).Nodup := Zi5 (Zi6 t s w)
 have hg := Z1u (l := Z36 t s w) (i := (p : Int)) (by omega) (by rw [Z4l]; omega)
 rw [Int.toNat_natCast] at hg
 rw [← List.take_append_drop p (Z36 t s w)] at hn
 have hd : nth (Z36 t s w) (p : Int) ∈ (Z36 t s w).drop p := List.mem_of_getElem? (i := 0) (by rw [List.getElem?_drop, Nat.add_zero]; exact hg)
 intro hm
 exact (List.nodup_append.1 hn).2.2 _ hm _ hd rfl
theorem Zgu {p : Nat} {x : Int} (hp : p < w.length) (hx : nth (Z36 t s w) (p : Int) = x) : (shP t s w p).set x.toNat (nth (shP t s w p) x + 1) = shP t s w (p + 1) := by
 have hg := Z1u (l := Z36 t s w) (i := (p : Int)) (by omega) (by rw [Z4l]; omega)
 have hf := @Zc7 t s w p hp
 have hm := Z2e (l := Z36 t s w) (i := (p : Int)) (by omega) (by rw [Z4l]; omega)
 rw [Int.toNat_natCast] at hg
 rw [hx] at hg hf hm
 have hin := Z6v.1 hm
 have e : (Z36 t s w).take (p + 1) = (Z36 t s w).take p ++ [x] := by rw [List.take_add_one, hg]; rfl
 have e1 : nth (shP t s w p) x = quoW t s w x := by
  unfold shP; rw [Z3d (i := x.toNat) (by omega) (by omega), show ((x.toNat : Nat) : Int) = x by omega, if_neg hf, Int.add_zero]
 rw [e1]
 unfold shP
 rw [Z5c (i := x.toNat) (by omega) (by omega)]
 refine Z7x fun k hk => ?_
 rw [e]
 by_cases hkx : k = x.toNat
 ·have h2 : (k : Int) = x := by omega
  rw [if_pos hkx, h2, if_pos (by simp)]
 ·have h2 : (k : Int) ≠ x := by omega
  rw [if_neg hkx]
  congr 1
  by_cases hk2 : (k : Int) ∈ (Z36 t s w).take p
  ·rw [if_pos hk2, if_pos (List.mem_append.2 (.inl hk2))]
  ·rw [if_neg hk2, if_neg (fun h => (List.mem_append.1 h).elim hk2 (fun h => h2 (List.mem_singleton.1 h)))]
theorem Zgv : shP t s w 0 = tab (fun k => quoW t s w k) w.length := by
 unfold shP
 refine Z7x fun k hk => ?_
 rw [List.take_zero, if_neg (by simp), Int.add_zero]
theorem Zfm {p : Nat} : (shP t s w p).length = w.length := by unfold shP; rw [Z2s]
theorem Zjs {p : Nat} {x : Int} (h0 : 0 ≤ x) (hx : x < w.length) : quoW t s w x ≤ nth (shP t s w p) x ∧ nth (shP t s w p) x ≤ quoW t s w x + 1 := by
 unfold shP; rw [Z3d (i := x.toNat) (by omega) (by omega), show ((x.toNat : Nat) : Int) = x by omega]
 split <;> omega
end

abbrev cvG (kc : Nat) (cc : List Value) : Value := .func (.func kc) #[] cc.toArray
structure CmpAt (w0 : World) (kc : Nat) (cc : List Value) (cf : Int → Int → Int) (M : Nat) (v : Value) (N : Nat) (ex : List Ob) : Prop where
 mk :: (out : ∀ (f : Nat → Int) (w : World) (x y : Int), St w0 w (rowT v f N :: ex) → (0 ≤ x ∧ x < M) → (0 ≤ y ∧ y < M) → CallsV Tryd.prog kc (.int .i64 x :: .int .i64 y :: cc).toArray w (.int .i64 (cf x y)))
theorem CmpAt.at {cf : Int → Int → Int} {kc M : Nat} {cc : List Value} {v : Value} {f : Nat → Int} {N : Nat} {x y : Int} {ex : List Ob} {w0 w : World} (hC : CmpAt w0 kc cc cf M v N ex) (S : St w0 w (rowT v f N :: ex)) (hx : 0 ≤ x ∧ x < M) (hy : 0 ≤ y ∧ y < M) :
  CallsV Tryd.prog kc (.int .i64 x :: .int .i64 y :: cc).toArray w (.int .i64 (cf x y)) := hC.out f w x y S hx hy
theorem insG_run {cf : Int → Int → Int} {kc M : Nat} [Enters Tryd.prog kc] {cc : List Value} {v : Value} {f : Nat → Int} {N a b : Nat} {x y : Int} {ex : List Ob} {w0 w : World} (hC : CmpAt w0 kc cc cf M v N ex) (hsw : SW (fun x y => decide (cf x y < 0))) (S : St w0 w (rowT v f N :: ex)) (hx : x = a) (hy : y = b) (hab : a < b) (hb : b ≤ N) (hN : N ≤ 1000000000)
  (hf : ∀ k, k < N → 0 ≤ f k ∧ f k < M) (hasc : ∀ k k', a ≤ k → k < k' → k' < b → f k < f k') :
  CallsW Tryd.prog 109 #[v, .int .i64 x, .int .i64 y, cvG kc cc] w (fun _ w' => ∃ g, Srt (fun x y => decide (cf x y < 0)) f g a b ∧ St w0 w' (rowT v g N :: ex)) := by
 subst hx hy
 refine CallsW.mk ?_
 refine Z0l Tryd.func109 rfl (by intro _ h; first | exact nomatch h.1 | (obtain ⟨_, h, _⟩ := h; exact nomatch h)) Tryd.ntmps109 rfl ?_
 repeat' (first | refine Z0a ?_ | refine Z02 ?_ | refine Z08 ?_ | refine Z01 ?_ | refine Z0f ?_ | refine Z06 rfl ?_ | refine Z04 rfl ?_ | ((refine Z00 rfl (Z12 rfl rfl ?_ ?_) ?_; (first | omega | simp <;> omega); (first | omega | simp <;> omega))))
 refine Z1l (fun k σ w1 => ∃ (i : Nat) (p : Int) (g : Nat → Int), Has σ [(0, v), (1, .int .i64 (a : Int)), (2, .int .i64 (b : Int)), (3, cvG kc cc), (8, .int .i64 p)] ∧ St w0 w1 (rowT v g N :: ex) ∧ p = i ∧ a < i ∧ i ≤ b ∧ Srt (fun x y => decide (cf x y < 0)) f g a i ∧ k = b - i) (b - (a + 1)) ⟨a + 1, _, f, ⟨rfl, rfl, rfl, rfl, rfl, trivial⟩, S, by omega, by omega, by omega, Srt.refl, by omega⟩ ?_
 clear S
 rintro k σ w1 ⟨i, p, g, hs, S, rfl, hai, hib, hg, rfl⟩
 refine Z1o hs ?_
 by_cases hi : i < b
 ·have hgb := hg.bound (by omega) hf
  repeat' (first | refine Z0a ?_ | refine Z02 ?_ | refine Z08 ?_ | refine Z01 ?_ | refine Z0k ?_ | refine Z0f ?_ | refine Z06 rfl ?_ | refine Z04 rfl ?_ | refine Z00 rfl (Z0z rfl rfl) ?_ | (refine Z0g rfl (fun h => ?_) (fun h => ?_) <;> (fail_if_success first | have := ntT h | have := ntF h) <;> (try simp only [tdyB] at h) <;> (try (exfalso; omega))))
  refine Z1l (fun k σ w1 => ∃ (j : Nat) (q : Int), Has σ [(0, v), (1, .int .i64 (a : Int)), (2, .int .i64 (b : Int)), (3, cvG kc cc), (8, .int .i64 (i : Int)), (9, .int .i64 q)] ∧ St w0 w1 (rowT v (insF g j i) N :: ex) ∧ q = j ∧ a ≤ j ∧ j ≤ i ∧ (∀ k, j ≤ k → k < i → decide (cf (g i) (g k) < 0) = true) ∧ k = j) i ⟨i, _, ⟨rfl, rfl, rfl, rfl, rfl, rfl, trivial⟩, by rw [Z91]; exact S, rfl, by omega, by omega, fun k p q => by omega, rfl⟩ ?_
  clear S hs
  rintro k σ w1 ⟨j, q, hs, S, rfl, haj, hji, hall, hkj⟩
  refine Z1o hs ?_
  have hib' := Zc5 (j := j) (by omega : i < N) hgb
  have hl := @Z2s (insF g j i) N
  by_cases haj' : a < j
  ·have e1 : nth (tab (insF g j i) N) (j : Int) = g i := by rw [Z3d (i := j) (by omega) rfl]; unfold insF; rw [if_pos rfl]
   have e2 : nth (tab (insF g j i) N) ((j : Int) - 1) = g (j - 1) := by rw [Z3d (i := j - 1) (by omega) (by omega)]; unfold insF; rw [if_neg (by omega), if_neg (by omega)]
   have b1 := hgb i (by omega)
   have b2 := hgb (j - 1) (by omega)
   by_cases hc : cf (g i) (g (j - 1)) < 0
   ·repeat' (first | refine Z0a ?_ | refine Z01 ?_ | refine Z0k ?_ | refine Z0f ?_ | (refine Pm.WP_drawPerm [0,1,5,6,7,8,9,10,11,12,13] [2,3,4] [14,15,16,17] (by kernel_rfl) (by decide +kernel) (by decide +kernel) ?_; intro w hb; replace S := S.grow hb; clear hb) | refine Z1s (by kernel_rfl) (by kernel_rfl) ?_ | (refine Z1q ?_; intro w hb; replace S := S.grow hb; clear hb) | ((refine Z00 rfl (Z07 (S.rdRow (D := (fInt .i64)) (i := 0) rfl) rfl rfl ?_ ?_) ?_; (first | omega | simp <;> omega); (first | omega | simp <;> omega))) | (refine Z1e ?_; refine Z1r rfl ?_) | (refine Z2a ?_; refine Z2j rfl rfl ?_) | (refine Z2f ?_; (refine Z0c rfl (fun w' hb => Z24 rfl rfl ?_ ?_) ?_; (first | omega | simp <;> omega); (first | omega | simp <;> omega))) | (refine Z2l ?_; refine Z0c rfl (fun w' hb => Z0z rfl rfl) ?_) | (refine Z2w ?_; refine Z0c rfl (fun w' hb => Z2o rfl rfl) ?_) | (refine Z0q ?_; (refine Z0c rfl (fun w' hb => Z07 ((S.grow hb).rdRow (D := (fInt .i64)) (i := 0) rfl) rfl rfl ?_ ?_) ?_; (first | omega | simp <;> omega); (first | omega | simp <;> omega))) | (refine Z1f ?_; (refine Z0c rfl (fun w' hb => Z0i ((S.grow hb).rdRow (D := (fInt .i64)) (i := 0) rfl) rfl ?_ ?_ rfl) ?_; (first | omega | simp <;> omega); (first | omega | simp <;> omega))) | (refine Z1v ?_; refine Z20 rfl (fun w' hb => Z0w rfl rfl rfl) (fun w' hb => (hC.at (S.grow hb) (by rw [e1]; exact b1) (by rw [e2]; exact b2))) ?_) | (refine Pm.qp_nil ?_; intro w hb; replace S := S.grow hb; clear hb) | (refine Pm.qp_val rfl (fun w' => Z24 rfl rfl ?_ ?_) ?_; omega; omega) | refine Pm.qp_val rfl (fun w' => ⟨rfl⟩) ?_ | (refine Z21 rfl rfl (fun h => ?_) (fun h => ?_) <;> (fail_if_success first | have := ntT h | have := ntF h) <;> (try simp only [tdyB] at h) <;> (try (exfalso; omega)) <;> (try (exfalso; rw [e1, e2] at h; omega; done))) | (refine Z0g rfl (fun h => ?_) (fun h => ?_) <;> (fail_if_success first | have := ntT h | have := ntF h) <;> (try simp only [tdyB] at h) <;> (try (exfalso; omega)) <;> (try (exfalso; rw [e1, e2] at h; omega; done))))
    refine Z05 rfl (Z29 (i := 0) (D := fInt .i64) S rfl rfl rfl rfl (fun c hc => by cases List.mem_singleton.1 hc; rfl) (by omega) (by omega)) ?_
    intro w S'
    replace S : St w0 w (rowT v (fun k => if k = j then g (j - 1) else insF g j i k) N :: ex) := by
     rw [Z5c (i := j) (by omega) (by omega), e2] at S'; exact S'
    clear S'
    have hl := @Z2s (fun k => if k = j then g (j - 1) else insF g j i k) N
    repeat' (((refine Z00 rfl (Z07 (S.rdRow (D := (fInt .i64)) (i := 0) rfl) rfl rfl ?_ ?_) ?_; (first | omega | simp <;> omega); (first | omega | simp <;> omega))))
    refine Z05 rfl (Z29 (i := 0) (D := fInt .i64) S rfl rfl rfl rfl (fun c hc => by cases List.mem_singleton.1 hc; rfl) (by omega) (by omega)) ?_
    intro w S'
    replace S : St w0 w (rowT v (insF g (j - 1) i) N :: ex) := by
     rw [Z5c (i := j - 1) (by omega) (by omega), e1] at S'
     refine S'.eqos (congrArg (fun o => o :: ex) (Z8f fun k hk => ?_))
     unfold insF
     (repeat' split) <;> first | rfl | omega | (congr 1; omega)
    clear S'
    repeat' (first | refine Z02 ?_ | refine Z08 ?_ | refine Z01 ?_ | refine Z0h ?_ | refine Z06 rfl ?_ | refine Z04 rfl ?_ | ((refine Z00 rfl (Z24 rfl rfl ?_ ?_) ?_; (first | omega | simp <;> omega); (first | omega | simp <;> omega))))
    refine ⟨⟨_, ?_, j - 1, _, ⟨rfl, rfl, rfl, rfl, rfl, rfl, trivial⟩, S, by omega, by omega, by omega, fun k' p q => ?_, rfl⟩⟩
    ·omega
    ·by_cases e : k' = j - 1
     ·subst e; exact decide_eq_true hc
     ·exact hall k' (by omega) q
   ·repeat' (first | refine Z0a ?_ | refine Z02 ?_ | refine Z08 ?_ | refine Z01 ?_ | refine Z0h ?_ | refine Z0s ?_ | refine Z15 ?_ | refine Z1b ?_ | refine Z1s (by kernel_rfl) (by kernel_rfl) ?_ | (refine Z1q ?_; intro w hb; replace S := S.grow hb; clear hb) | refine Z06 rfl ?_ | refine Z04 rfl ?_ | ((refine Z00 rfl (Z12 rfl rfl ?_ ?_) ?_; (first | omega | simp <;> omega); (first | omega | simp <;> omega))) | (refine Z1e ?_; refine Z1r rfl ?_) | (refine Z2a ?_; refine Z2j rfl rfl ?_) | (refine Z2f ?_; (refine Z0c rfl (fun w' hb => Z24 rfl rfl ?_ ?_) ?_; (first | omega | simp <;> omega); (first | omega | simp <;> omega))) | (refine Z2l ?_; refine Z0c rfl (fun w' hb => Z0z rfl rfl) ?_) | (refine Z2w ?_; refine Z0c rfl (fun w' hb => Z2o rfl rfl) ?_) | (refine Z0q ?_; (refine Z0c rfl (fun w' hb => Z07 ((S.grow hb).rdRow (D := (fInt .i64)) (i := 0) rfl) rfl rfl ?_ ?_) ?_; (first | omega | simp <;> omega); (first | omega | simp <;> omega))) | (refine Z1f ?_; (refine Z0c rfl (fun w' hb => Z0i ((S.grow hb).rdRow (D := (fInt .i64)) (i := 0) rfl) rfl ?_ ?_ rfl) ?_; (first | omega | simp <;> omega); (first | omega | simp <;> omega))) | (refine Z1v ?_; refine Z20 rfl (fun w' hb => Z0w rfl rfl rfl) (fun w' hb => (hC.at (S.grow hb) (by rw [e1]; exact b1) (by rw [e2]; exact b2))) ?_) | (refine Z21 rfl rfl (fun h => ?_) (fun h => ?_) <;> (fail_if_success first | have := ntT h | have := ntF h) <;> (try simp only [tdyB] at h) <;> (try (exfalso; omega)) <;> (try (exfalso; rw [e1, e2] at h; omega; done))) | (refine Z0g rfl (fun h => ?_) (fun h => ?_) <;> (fail_if_success first | have := ntT h | have := ntF h) <;> (try simp only [tdyB] at h) <;> (try (exfalso; omega)) <;> (try (exfalso; rw [e1, e2] at h; omega; done))))
    refine ⟨⟨_, ?_, i + 1, _, _, ⟨rfl, rfl, rfl, rfl, rfl, trivial⟩, S, by omega, by omega, by omega, Za2 hsw hai hg (fun k p q => hasc k i p q hi) haj hji (fun _ => by exact decide_eq_false hc) hall, rfl⟩⟩
    omega
  ·repeat' (first | refine Z0a ?_ | refine Z02 ?_ | refine Z08 ?_ | refine Z01 ?_ | refine Z0h ?_ | refine Z0s ?_ | refine Z15 ?_ | refine Z1b ?_ | refine Z18 rfl ?_ | refine Z1s (by kernel_rfl) (by kernel_rfl) ?_ | (refine Z1q ?_; intro w hb; replace S := S.grow hb; clear hb) | refine Z06 rfl ?_ | refine Z04 rfl ?_ | ((refine Z00 rfl (Z12 rfl rfl ?_ ?_) ?_; (first | omega | simp <;> omega); (first | omega | simp <;> omega))) | (refine Z2y ?_; refine Z5l rfl ?_) | (refine Z1e ?_; refine Z1r rfl ?_) | (refine Z2a ?_; refine Z31 rfl rfl ?_) | (refine Z2w ?_; refine Z0c rfl (fun w' hb => Z2o rfl rfl) ?_) | (refine Z21 rfl rfl (fun h => ?_) (fun h => ?_) <;> (fail_if_success first | have := ntT h | have := ntF h) <;> (try simp only [tdyB] at h) <;> (try (exfalso; omega))))
   refine ⟨⟨_, ?_, i + 1, _, _, ⟨rfl, rfl, rfl, rfl, rfl, trivial⟩, S, by omega, by omega, by omega, Za2 hsw hai hg (fun k p q => hasc k i p q hi) haj hji (fun h => absurd h haj') hall, rfl⟩⟩
   omega
 ·repeat' (first | refine Z0a ?_ | refine Z02 ?_ | refine Z08 ?_ | refine Z01 ?_ | refine Z06 rfl ?_ | refine Z00 rfl (Z0z rfl rfl) ?_)
  refine Z0g rfl (fun h => absurd (of_decide_eq_true h) (by omega)) (fun h => ?_)
  refine Z1b ?_
  refine Z0s ?_
  refine Z0s ?_
  refine Z15 ?_
  have e : i = b := by omega
  subst e
  exact end0 rfl ⟨_, rfl, g, hg, S⟩


theorem Zfn {cf : Int → Int → Int} {kc : Nat} [Enters Tryd.prog kc] {cc : List Value} {v : Value} {N : Nat} {x : Int} {ex : List Ob} {w0 w : World} (hC : CmpAt w0 kc cc cf N v N ex) (hsw : SW (fun x y => decide (cf x y < 0))) (S : St w0 w (rowT v idf N :: ex)) (hx : x = N) (h0 : 0 < N) (hN : N < 20) :
  CallsW Tryd.prog 90 #[v, .int .i64 x, cvG kc cc] w (fun _ w' => ∃ g, (tab g N).Perm (tab idf N) ∧ (tab g N).Pairwise (RS (fun x y => decide (cf x y < 0))) ∧ St w0 w' (rowT v g N :: ex)) := by
 subst hx
 refine CallsW.mk ?_
 refine Z0l Tryd.func90 rfl (by intro _ h; first | exact nomatch h.1 | (obtain ⟨_, h, _⟩ := h; exact nomatch h)) Tryd.ntmps90 rfl ?_
 repeat' (first | refine Z0a ?_ | refine Z02 ?_ | refine Z08 ?_ | refine Z01 ?_ | refine Z0f ?_ | refine Z06 rfl ?_ | refine Z04 rfl ?_)
 refine Z1l (fun k σ w1 => Has σ [(0, v), (1, .int .i64 (N : Int)), (2, cvG kc cc), (6, .int .i64 20), (7, .int .i64 0), (8, .int .i64 20)] ∧ St w0 w1 (rowT v idf N :: ex)) 0 ⟨⟨rfl, rfl, rfl, rfl, rfl, rfl, trivial⟩, S⟩ ?_
 clear S
 rintro k σ w1 ⟨hs, S⟩
 refine Z1o hs ?_
 repeat' (first | refine Z0a ?_ | refine Z02 ?_ | refine Z08 ?_ | refine Z01 ?_ | refine Z06 rfl ?_ | refine Z00 rfl (Z4m rfl rfl) ?_)
 refine Z0g rfl (fun h => absurd (of_decide_eq_true h) (by omega)) (fun h => ?_)
 refine Z1b ?_
 refine Z0s ?_
 refine Z0s ?_
 refine Z15 ?_
 refine Z01 ?_
 repeat' (first | refine Z0a ?_ | refine Z02 ?_ | refine Z06 rfl ?_)
 refine Z35 rfl (Z3g rfl rfl rfl rfl rfl) (insG_run (a := 0) (b := N) hC hsw S (by omega) (by omega) h0 (Nat.le_refl _) (by omega) (fun k hk => by simp only [idf]; omega) (fun k k' p q r => by simp only [idf]; omega)) ?_
 rintro u w ⟨g', hg, S'⟩
 replace S := S'; clear S'
 repeat' (first | refine Z08 ?_ | refine Z01 ?_ | refine Z0f ?_)
 refine Z1l (fun k σ w1 => Has σ [(0, v), (1, .int .i64 (N : Int)), (2, cvG kc cc), (6, .int .i64 20)] ∧ St w0 w1 (rowT v g' N :: ex)) 0 ⟨⟨rfl, rfl, rfl, rfl, trivial⟩, S⟩ ?_
 clear S hs
 rintro k σ w1 ⟨hs, S⟩
 refine Z1o hs ?_
 repeat' (first | refine Z0a ?_ | refine Z02 ?_ | refine Z08 ?_ | refine Z01 ?_ | refine Z06 rfl ?_ | refine Z00 rfl (Z0z rfl rfl) ?_)
 refine Z0g rfl (fun h => absurd (of_decide_eq_true h) (by omega)) (fun h => ?_)
 refine Z1b ?_
 refine Z0s ?_
 refine Z0s ?_
 refine Z15 ?_
 refine end0 rfl ⟨_, rfl, g', ?_, ?_, S⟩
 ·rw [← Z90, ← Z90]; exact hg.perm
 ·rw [← Z90]; exact hg.pw

theorem Zjt {cf : Int → Int → Int} {kc : Nat} [Enters Tryd.prog kc] {cc : List Value} {v : Value} {N : Nat} {ex : List Ob} {w0 w : World} (hC : CmpAt w0 kc cc cf N v N ex) (hsw : SW (fun x y => decide (cf x y < 0))) (S : St w0 w (rowT v idf N :: ex)) (h0 : 0 < N) (hN : N < 20) :
  CallsW Tryd.prog 62 #[v, cvG kc cc] w (fun _ w' => St w0 w' (Z16 (fInt .i64) 3 v (ordG (fun x y => decide (cf x y < 0)) N) :: ex)) := by
 refine CallsW.mk ?_
 have hl := @Z2s idf N
 obtain ⟨A, c, hz⟩ := (S.rdRow (D := fInt .i64) (i := 0) rfl).len; subst hz
 refine Z0l Tryd.func62 rfl (by intro _ h; first | exact nomatch h.1 | (obtain ⟨_, h, _⟩ := h; exact nomatch h)) Tryd.ntmps62 rfl ?_
 repeat' (first | refine Z02 ?_ | refine Z06 rfl ?_ | refine Z00 rfl (Z0e rfl) ?_)
 refine Z35 rfl (Z1t rfl rfl rfl rfl) (Zfn (N := N) (x := ((tab idf N).length : Int)) hC hsw S (by omega) h0 hN) ?_
 rintro u w ⟨g, hp, hw, S'⟩
 replace S : St w0 w (Z16 (fInt .i64) 3 (.slice A (tab idf N).length c) (tab g N) :: ex) := S'
 rw [Zjq hsw hp hw] at S
 refine Z08 ?_
 exact end0 rfl ⟨_, rfl, S⟩

theorem Z81 {n lo hi : Int} {b : Bool} {w : World} (hE : inR n lo hi = b) : CallsV Tryd.prog 47 #[.int .i64 n, .int .i64 lo, .int .i64 hi] w (.bool b) := by
 have S := St.start w
 refine CallsV.mk ?_
 refine Z0l Tryd.func47 rfl (by intro _ h; first | exact nomatch h.1 | (obtain ⟨_, h, _⟩ := h; exact nomatch h)) Tryd.ntmps47 rfl ?_
 repeat' (first | refine Z0a ?_ | refine Z02 ?_ | refine Z08 ?_ | refine Z01 ?_ | refine Z0r ?_ | (refine Z1c ?_; refine Z1p rfl ?_) | refine Z06 rfl ?_ | refine Z04 rfl ?_ | (first | refine Z0u rfl rfl ?_ | refine Z0t rfl rfl ?_) | refine Z00 rfl (Z4m rfl rfl) ?_ | (refine Z13 rfl rfl (fun h => ?_) (fun h => ?_) <;> (fail_if_success first | have := ntT h | have := ntF h) <;> (try simp only [tdyB] at h) <;> (try (exfalso; omega))))
 all_goals (refine end1 rfl rfl ⟨rb ?_, S.below⟩; subst hE; simp [inR]; try omega)
theorem wi_spec {n lo hi : Int} {w : World} : CallsV Tryd.prog 47 #[.int .i64 n, .int .i64 lo, .int .i64 hi] w (.bool (inR n lo hi)) := Z81 rfl
theorem Z4d {n lo hi : Int} {b : Bool} {w : World} (hE : inR n lo hi = b) : CallsV Tryd.prog 51 #[.int .i64 n, .int .i64 lo, .int .i64 hi] w (.bool b) := by
 have S := St.start w
 refine CallsV.mk ?_
 refine Z0l Tryd.func51 rfl (by intro _ h; first | exact nomatch h.1 | (obtain ⟨_, h, _⟩ := h; exact nomatch h)) Tryd.ntmps51 rfl ?_
 repeat' (first | refine Z0a ?_ | refine Z02 ?_ | refine Z08 ?_ | refine Z01 ?_ | refine Z0r ?_ | (refine Z1c ?_; refine Z1p rfl ?_) | refine Z06 rfl ?_ | refine Z04 rfl ?_ | (first | refine Z0u rfl rfl ?_ | refine Z0t rfl rfl ?_) | refine Z00 rfl (Z4m rfl rfl) ?_ | refine Z00 rfl (Z2x rfl rfl) ?_ | (refine Z13 rfl rfl (fun h => ?_) (fun h => ?_) <;> (fail_if_success first | have := ntT h | have := ntF h) <;> (try simp only [tdyB] at h) <;> (try (exfalso; omega))))
 all_goals (refine end1 rfl rfl ⟨rb ?_, S.below⟩; subst hE; simp [inR]; try omega)
theorem Zgw {n lo hi : Int} {w : World} : CallsV Tryd.prog 51 #[.int .i64 n, .int .i64 lo, .int .i64 hi] w (.bool (inR n lo hi)) := Z4d rfl

def badV (x : GVerdict) : Bool := decide (¬ (1 ≤ x.Kind ∧ x.Kind ≤ 4 ∧ 0 ≤ x.Item ∧ x.Item ≤ 199 ∧ (x.Kind ≠ 1 → x.Item = 0)))
def Z3m (l : List GVerdict) : Bool := decide (l.length ≤ 200) && !l.any badV
theorem Zju {x : GVerdict} {w : World} : CallsV Tryd.prog 61 #[.agg x.enc.toArray] w (.bool (badV x)) := by
 have S := St.start w
 refine CallsV.mk ?_
 refine Z0l Tryd.func61 rfl (by intro _ h; first | exact nomatch h.1 | (obtain ⟨_, h, _⟩ := h; exact nomatch h)) Tryd.ntmps61 rfl ?_
 repeat' (first | refine Z0a ?_ | refine Z02 ?_ | refine Z08 ?_ | refine Z01 ?_ | refine Z0x ?_ | refine Z0r ?_ | refine Z0k ?_ | (refine Z1c ?_; refine Z1p rfl ?_) | refine Z06 rfl ?_ | refine Z04 rfl ?_ | (first | refine Z0u rfl rfl ?_ | refine Z0t rfl rfl ?_) | refine Z00 rfl (Z2k rfl rfl) ?_ | refine Z00 rfl (Z33 rfl rfl) ?_ | refine Z00 rfl (Z1w rfl) ?_ | refine Z00 rfl (Z09 rfl) ?_ | refine Z00 rfl (Z0b (i := 0) S rfl rfl rfl) ?_ | ((refine Z0j rfl (Z1t rfl rfl rfl rfl) (wi_spec) ?_; intro w hb; replace S := S.grow hb; clear hb)) | (refine Z2g ?_; refine Z0n rfl (Z2h S rfl) ?_; rintro _ w ⟨b, rfl, -, S'⟩; replace S := S'; clear S') | (refine Z13 rfl rfl (fun h => ?_) (fun h => ?_) <;> (fail_if_success first | have := ntT h | have := ntF h) <;> (try simp only [tdyB] at h) <;> (try (exfalso; omega))) | (refine Z0g rfl (fun h => ?_) (fun h => ?_) <;> (fail_if_success first | have := ntT h | have := ntF h) <;> (try simp only [tdyB] at h) <;> (try (exfalso; omega))))
 all_goals
  refine end1 rfl rfl ⟨rb ?_, S.below⟩
  simp only [inR, decide_eq_true_eq, decide_eq_false_iff_not, Bool.not_eq_true', Bool.not_eq_false'] at *
  symm
  unfold badV
 all_goals first
  | (rw [decide_eq_false_iff_not]; omega)
  | (rw [decide_eq_true_iff]; omega)
  | (rw [← decide_not, decide_eq_decide]; omega)
  | (rw [decide_eq_decide]; omega)
theorem Zb7 {g : FuncId} [Enters Tryd.prog g] {cl : List Value} {p : GVerdict → Bool} {v : Value} {l : List GVerdict} {w : World} (hr : Rd Z1j.ty w v l) (hl : l.length ≤ 1000000000)
  (hp : ∀ x w', Below w.heap.size w w' → CallsV Tryd.prog g (.agg (GVerdict.enc x).toArray :: cl).toArray w' (.bool (p x))) :
  CallsV Tryd.prog 89 #[v, .func (.func g) #[] cl.toArray] w (.int .i64 (idxF p l)) := by
 have S := St.start w
 obtain ⟨A, c, rfl⟩ := hr.len
 refine CallsV.mk ?_
 refine Z0l Tryd.func89 rfl (by intro _ h; first | exact nomatch h.1 | (obtain ⟨_, h, _⟩ := h; exact nomatch h)) Tryd.ntmps89 rfl ?_
 repeat' (first | refine Z0a ?_ | refine Z02 ?_ | refine Z08 ?_ | refine Z01 ?_ | refine Z0f ?_ | refine Z06 rfl ?_ | refine Z04 rfl ?_ | refine Z00 rfl (Z0e rfl) ?_)
 refine Z1l (fun k σ w1 => ∃ i : Int, Has σ [(0, .slice A l.length c), (1, .func (.func g) #[] cl.toArray), (7, .int .i64 l.length), (8, .int .i64 i)] ∧ St w w1 [] ∧ 0 ≤ i ∧ i ≤ l.length ∧ k = l.length - i.toNat ∧ ∀ j, j < i.toNat → ∀ x, l[j]? = some x → p x = false) l.length ⟨0, ⟨rfl, rfl, rfl, rfl, trivial⟩, S, by omega, by omega, by omega, fun j hj => by omega⟩ ?_
 rintro k σ w1 ⟨i, hs, S, hi0, hi1, rfl, hnone⟩
 refine Z1o hs ?_
 repeat' (first | refine Z0a ?_ | refine Z02 ?_ | refine Z08 ?_ | refine Z01 ?_ | refine Z0h ?_ | refine Z0s ?_ | refine Z15 ?_ | refine Z0x ?_ | refine Z27 ?_ | refine Z0r ?_ | refine Z0k ?_ | refine Z1b ?_ | refine Z0f ?_ | refine Z06 rfl ?_ | refine Z04 rfl ?_ | ((refine Z00 rfl (Z12 rfl rfl ?_ ?_) ?_; (first | omega | simp <;> omega); (first | omega | simp <;> omega))) | refine Z00 rfl (Z0z rfl rfl) ?_ | ((refine Z00 rfl (Z07 (hr.mono S.below) rfl rfl ?_ ?_) ?_; (first | omega | simp <;> omega); (first | omega | simp <;> omega))) | ((refine Z00 rfl (Z19 (hr.mono S.below) rfl ?_ ?_) ?_; (first | omega | simp <;> omega); (first | omega | simp <;> omega))) | ((refine Z0j rfl (Z1h rfl rfl) ((hp _ _ S.below)) ?_; intro w hb; replace S := S.grow hb; clear hb)) | (refine Z0g rfl (fun h => ?_) (fun h => ?_) <;> (fail_if_success first | have := ntT h | have := ntF h) <;> (try simp only [tdyB] at h) <;> (try (exfalso; omega))))
 ·refine end1 rfl rfl ⟨ri ?_, S.below⟩
  exact (Z8c hnone (Z1u (by omega) (by omega)) h (by omega)).symm
 ·refine ⟨⟨_, ?_, i + 1, ⟨rfl, rfl, rfl, rfl, trivial⟩, S, by omega, by omega, rfl, fun j hj x hx => ?_⟩⟩
  ·omega
  ·by_cases e : j = i.toNat
   ·subst e; rw [Z1u (by omega) (by omega)] at hx; cases hx; exact h
   ·exact hnone j (by omega) x hx
 ·refine end1 rfl rfl ⟨ri ?_, S.below⟩
  exact (Z6u fun x hx => by
   obtain ⟨j, hj⟩ := List.getElem?_of_mem hx
   exact hnone j (by have := List.getElem?_eq_some_iff.1 hj; obtain ⟨hlt, _⟩ := this; omega) x hj).symm

theorem Z8m {g : FuncId} [Enters Tryd.prog g] {cl : List Value} {p : GVerdict → Bool} {v : Value} {l : List GVerdict} {w : World} (hr : Rd Z1j.ty w v l) (hl : l.length ≤ 1000000000)
  (hp : ∀ x w', Below w.heap.size w w' → CallsV Tryd.prog g (.agg (GVerdict.enc x).toArray :: cl).toArray w' (.bool (p x))) :
  CallsV Tryd.prog 60 #[v, .func (.func g) #[] cl.toArray] w (.bool (l.any p)) := by
 have S := St.start w
 refine CallsV.mk ?_
 refine Z0l Tryd.func60 rfl (by intro _ h; first | exact nomatch h.1 | (obtain ⟨_, h, _⟩ := h; exact nomatch h)) Tryd.ntmps60 rfl ?_
 repeat' (first | refine Z0a ?_ | refine Z02 ?_ | refine Z08 ?_ | refine Z01 ?_ | refine Z0r ?_ | refine Z06 rfl ?_ | refine Z04 rfl ?_ | refine Z00 rfl (Z2x rfl rfl) ?_ | ((refine Z0j rfl (Z0w rfl rfl rfl) (Zb7 (hr.mono S.below) hl (fun x w' hb => hp x w' (S.below.trans (hb.mono S.below.size)))) ?_; intro w hb; replace S := S.grow hb; clear hb)))
 all_goals (refine end1 rfl rfl ⟨rb ?_, S.below⟩; rw [Z9x])


theorem Zb8 {v : Value} {l : List GVerdict} {w : World} (hr : Rd Z1j.ty w v l) (hl : l.length ≤ 1000000000) : CallsV Tryd.prog 25 #[v] w (.bool (Z3m l)) := by
 have S := St.start w
 obtain ⟨A, c, rfl⟩ := hr.len
 refine CallsV.mk ?_
 refine Z0l Tryd.func25 rfl (by intro _ h; first | exact nomatch h.1 | (obtain ⟨_, h, _⟩ := h; exact nomatch h)) Tryd.ntmps25 rfl ?_
 repeat' (first | refine Z0a ?_ | refine Z02 ?_ | refine Z08 ?_ | refine Z01 ?_ | refine Z0r ?_ | (refine Z1c ?_; refine Z1p rfl ?_) | refine Z06 rfl ?_ | refine Z04 rfl ?_ | (first | refine Z0u rfl rfl ?_ | refine Z0t rfl rfl ?_) | refine Z00 rfl (Z4m rfl rfl) ?_ | refine Z00 rfl (Z1w rfl) ?_ | refine Z00 rfl (Z0e rfl) ?_ | ((refine Z0j rfl (Z0w rfl rfl rfl) (Z8m (hr.mono S.below) hl (fun x w' _ => Zju)) ?_; intro w hb; replace S := S.grow hb; clear hb)) | (refine Z13 rfl rfl (fun h => ?_) (fun h => ?_) <;> (fail_if_success first | have := ntT h | have := ntF h) <;> (try simp only [tdyB] at h) <;> (try (exfalso; omega))))
 all_goals
  refine end1 rfl rfl ⟨rb ?_, S.below⟩
  unfold Z3m
 all_goals first
  | (rw [decide_eq_true (by omega)]; rfl)
  | (rw [decide_eq_false (by omega)]; rfl)
theorem Z6w {v : Value} {l : List GVerdict} {w : World} (hr : Rd Z1j.ty w v l) (hl : l.length ≤ 1000000000) : CallsV Tryd.prog 26 #[v] w (.bool (Z3m l)) := by
 have S := St.start w
 obtain ⟨A, c, rfl⟩ := hr.len
 refine CallsV.mk ?_
 refine Z0l Tryd.func26 rfl (by intro _ h; first | exact nomatch h.1 | (obtain ⟨_, h, _⟩ := h; exact nomatch h)) Tryd.ntmps26 rfl ?_
 repeat' (first | refine Z0a ?_ | refine Z02 ?_ | refine Z08 ?_ | refine Z01 ?_ | refine Z0f ?_ | refine Z04 rfl ?_)
 refine Z1l (fun k σ w1 => ∃ (i : Int), Has σ [(0, .slice A l.length c), (3, .int .i64 i)] ∧ St w w1 [] ∧ 0 ≤ i ∧ i ≤ l.length ∧ (∀ j : Int, 0 ≤ j → j < i → badV (nth l j) = false) ∧ k = l.length - i.toNat) l.length ⟨0, ⟨rfl, rfl, trivial⟩, S, by omega, by omega, fun j p q => by omega, by omega⟩ ?_
 clear S
 rintro k σ w1 ⟨i, hs, S, hi0, hi1, hall, rfl⟩
 refine Z1o hs ?_
 by_cases hi : i < l.length
 ·have hm := Z2e hi0 hi
  cases hb : badV (nth l i) with
  | true =>
   have hv : Z3m l = false := by
    unfold Z3m
    rw [Bool.and_eq_false_iff, Bool.not_eq_false']
    exact .inr (List.any_eq_true.2 ⟨_, hm, hb⟩)
   rw [hv]
   unfold badV at hb
   have hb := of_decide_eq_true hb
   repeat' (first | refine Z0a ?_ | refine Z02 ?_ | refine Z08 ?_ | refine Z01 ?_ | refine Z0x ?_ | refine Z27 ?_ | refine Z0r ?_ | refine Z0k ?_ | refine Z0f ?_ | refine Z0v rfl ?_ | (refine Z1c ?_; refine Z1p rfl ?_) | refine Z06 rfl ?_ | refine Z04 rfl ?_ | (first | refine Z0u rfl rfl ?_ | refine Z0t rfl rfl ?_) | refine Z00 rfl (Z33 rfl rfl) ?_ | refine Z00 rfl (Z0z rfl rfl) ?_ | refine Z00 rfl (Z1w rfl) ?_ | refine Z00 rfl (Z0e rfl) ?_ | refine Z00 rfl (Z09 rfl) ?_ | ((refine Z00 rfl (Z07 (hr.mono S.below) rfl rfl ?_ ?_) ?_; (first | omega | simp <;> omega); (first | omega | simp <;> omega))) | (first | (refine Z00 rfl (Z19 (hr.mono S.below) rfl ?_ ?_) ?_; (first | omega | simp <;> omega); (first | omega | simp <;> omega)) | refine Z00 rfl (Z0b (i := 0) S rfl rfl rfl) ?_) | ((refine Z0j rfl (Z1t rfl rfl rfl rfl) (Zgw) ?_; intro w hb; replace S := S.grow hb; clear hb)) | (refine Z0n rfl (Z1i S) ?_; rintro _ w ⟨b, rfl, -, S'⟩; replace S := S'; clear S') | ((refine Z05 rfl (Z03 (i := 0) S rfl rfl rfl rfl (dqq rfl) (dqq rfl)) ?_; clear S; intro w S)) | (refine Z13 rfl rfl (fun h => ?_) (fun h => ?_) <;> (fail_if_success first | have := ntT h | have := ntF h) <;> (try simp only [tdyB] at h) <;> (try (exfalso; omega)) <;> (try (exfalso; simp only [inR, decide_eq_true_eq, decide_eq_false_iff_not, Bool.not_eq_true', Bool.not_eq_false', Int.not_lt, Int.not_le] at *; omega; done))) | (refine Z0g rfl (fun h => ?_) (fun h => ?_) <;> (fail_if_success first | have := ntT h | have := ntF h) <;> (try simp only [tdyB] at h) <;> (try (exfalso; omega)) <;> (try (exfalso; simp only [inR, decide_eq_true_eq, decide_eq_false_iff_not, Bool.not_eq_true', Bool.not_eq_false', Int.not_lt, Int.not_le] at *; omega; done))))
   all_goals exact end1 rfl rfl ⟨rfl, S.below⟩
  | false =>
   have hb' := hb
   unfold badV at hb'
   have hb' := of_decide_eq_false hb'
   repeat' (first | refine Z0a ?_ | refine Z02 ?_ | refine Z08 ?_ | refine Z01 ?_ | refine Z0h ?_ | refine Z0k ?_ | refine Z0f ?_ | refine Z18 rfl ?_ | (refine Z1c ?_; refine Z1p rfl ?_) | refine Z06 rfl ?_ | refine Z04 rfl ?_ | (first | refine Z0u rfl rfl ?_ | refine Z0t rfl rfl ?_) | ((refine Z00 rfl (Z12 rfl rfl ?_ ?_) ?_; (first | omega | simp <;> omega); (first | omega | simp <;> omega))) | refine Z00 rfl (Z33 rfl rfl) ?_ | refine Z00 rfl (Z0z rfl rfl) ?_ | refine Z00 rfl (Z1w rfl) ?_ | refine Z00 rfl (Z0e rfl) ?_ | refine Z00 rfl (Z09 rfl) ?_ | ((refine Z00 rfl (Z07 (hr.mono S.below) rfl rfl ?_ ?_) ?_; (first | omega | simp <;> omega); (first | omega | simp <;> omega))) | (first | (refine Z00 rfl (Z19 (hr.mono S.below) rfl ?_ ?_) ?_; (first | omega | simp <;> omega); (first | omega | simp <;> omega)) | refine Z00 rfl (Z0b (i := 0) S rfl rfl rfl) ?_) | ((refine Z0j rfl (Z1t rfl rfl rfl rfl) (Zgw) ?_; intro w hb; replace S := S.grow hb; clear hb)) | (refine Z0n rfl (Z1i S) ?_; rintro _ w ⟨b, rfl, -, S'⟩; replace S := S'; clear S') | ((refine Z05 rfl (Z03 (i := 0) S rfl rfl rfl rfl (dqq rfl) (dqq rfl)) ?_; clear S; intro w S)) | (refine Z13 rfl rfl (fun h => ?_) (fun h => ?_) <;> (fail_if_success first | have := ntT h | have := ntF h) <;> (try simp only [tdyB] at h) <;> (try (exfalso; omega)) <;> (try (exfalso; simp only [inR, decide_eq_true_eq, decide_eq_false_iff_not, Bool.not_eq_true', Bool.not_eq_false', Int.not_lt, Int.not_le] at *; omega; done))) | (refine Z0g rfl (fun h => ?_) (fun h => ?_) <;> (fail_if_success first | have := ntT h | have := ntF h) <;> (try simp only [tdyB] at h) <;> (try (exfalso; omega)) <;> (try (exfalso; simp only [inR, decide_eq_true_eq, decide_eq_false_iff_not, Bool.not_eq_true', Bool.not_eq_false', Int.not_lt, Int.not_le] at *; omega; done))))
   all_goals
    refine ⟨⟨_, ?_, i + 1, ⟨rfl, rfl, trivial⟩, S.keep [false], by omega, by omega, fun j p q => ?_, rfl⟩⟩
    ·omega
    ·by_cases e : j = i
     ·subst e; exact hb
     ·exact hall j p (by omega)
 ·have hn : l.any badV = false := by
   rw [List.any_eq_false]
   intro x hx
   obtain ⟨j, hj⟩ := List.getElem?_of_mem hx
   have hlt := (List.getElem?_eq_some_iff.1 hj).1
   have h2 := Z1u (l := l) (i := j) (by omega) (by omega)
   rw [Int.toNat_natCast, hj] at h2
   rw [Option.some.inj h2, hall j (by omega) (by omega)]; simp
  repeat' (first | refine Z0a ?_ | refine Z02 ?_ | refine Z08 ?_ | refine Z01 ?_ | refine Z0s ?_ | refine Z15 ?_ | refine Z0r ?_ | refine Z1b ?_ | refine Z06 rfl ?_ | refine Z04 rfl ?_ | refine Z00 rfl (Z0z rfl rfl) ?_ | refine Z00 rfl (Z4m rfl rfl) ?_ | refine Z00 rfl (Z0e rfl) ?_ | (refine Z0g rfl (fun h => ?_) (fun h => ?_) <;> (fail_if_success first | have := ntT h | have := ntF h) <;> (try simp only [tdyB] at h) <;> (try (exfalso; omega))))
  all_goals
   refine end1 rfl rfl ⟨rb ?_, S.below⟩
   unfold Z3m
   rw [hn, Bool.not_false, Bool.and_true]
   first
    | (rw [decide_eq_decide]; omega)
    | (rw [decide_eq_true_iff.2 (by omega)])
    | (symm; rw [decide_eq_true_iff]; omega)
    | (symm; rw [decide_eq_false_iff_not]; omega)
theorem Zd5 {α : Type} [Inhabited α] {l m : List α} (hl : l.length = m.length) (h : ∀ j : Int, 0 ≤ j → j < l.length → nth l j = nth m j) : l = m := by
 apply List.ext_getElem? 
 intro j
 by_cases hj : j < l.length
 ·have h1 := Z1u (l := l) (i := j) (by omega) (by omega)
  have h2 := Z1u (l := m) (i := j) (by omega) (by omega)
  simp only [Int.toNat_natCast] at h1 h2
  rw [h1, h2, h j (by omega) (by omega)]
 ·rw [List.getElem?_eq_none (by omega), List.getElem?_eq_none (by omega)]
theorem Zjv {v v2 : Value} {l m : List GSpot} {w : World} (hr : Rd Z1d.ty w v l) (hr2 : Rd Z1d.ty w v2 m) (hl : l.length ≤ 1000000000) (hm : m.length ≤ 1000000000) :
  CallsV Tryd.prog 20 #[v, v2] w (.bool (decide (l = m))) := by
 have S := St.start w
 obtain ⟨A, c, rfl⟩ := hr.len
 obtain ⟨A2, c2, rfl⟩ := hr2.len
 refine CallsV.mk ?_
 refine Z0l Tryd.func20 rfl (by intro _ h; first | exact nomatch h.1 | (obtain ⟨_, h, _⟩ := h; exact nomatch h)) Tryd.ntmps20 rfl ?_
 repeat' (first | refine Z0a ?_ | refine Z02 ?_ | refine Z08 ?_ | refine Z01 ?_ | refine Z0x ?_ | refine Z0r ?_ | refine Z0k ?_ | refine Z0f ?_ | refine Z06 rfl ?_ | refine Z04 rfl ?_ | refine Z00 rfl (Z33 rfl rfl) ?_ | refine Z00 rfl (Z0e rfl) ?_ | (refine Z0g rfl (fun h => ?_) (fun h => ?_) <;> (fail_if_success first | have := ntT h | have := ntF h) <;> (try simp only [tdyB] at h) <;> (try (exfalso; omega))))
 ·exact end1 rfl rfl ⟨rb (by rw [decide_eq_false]; rintro rfl; omega), S.below⟩
 refine Z1l (fun k σ w1 => ∃ i : Int, Has σ [(0, .slice A l.length c), (1, .slice A2 m.length c2), (5, .int .i64 i)] ∧ St w w1 [] ∧ 0 ≤ i ∧ i ≤ l.length ∧ k = l.length - i.toNat ∧ ∀ j : Int, 0 ≤ j → j < i → nth l j = nth m j) l.length ⟨0, ⟨rfl, rfl, rfl, trivial⟩, S, by omega, by omega, by omega, fun j h0 h1 => by omega⟩ ?_
 rintro k σ w1 ⟨i, hs, S, hi0, hi1, rfl, hall⟩
 refine Z1o hs ?_
 repeat' (first | refine Z0a ?_ | refine Z02 ?_ | refine Z08 ?_ | refine Z01 ?_ | refine Z0h ?_ | refine Z0s ?_ | refine Z15 ?_ | refine Z0x ?_ | refine Z27 ?_ | refine Z0r ?_ | refine Z0k ?_ | refine Z1b ?_ | refine Z0f ?_ | refine Z1s (by kernel_rfl) (by kernel_rfl) ?_ | (refine Z1q ?_; intro w hb; replace S := S.grow hb; clear hb) | refine Z06 rfl ?_ | refine Z04 rfl ?_ | ((refine Z00 rfl (Z12 rfl rfl ?_ ?_) ?_; (first | omega | simp <;> omega); (first | omega | simp <;> omega))) | refine Z00 rfl (Z0z rfl rfl) ?_ | refine Z00 rfl (Z0e rfl) ?_ | (refine Z1e ?_; refine Z1r rfl ?_) | (refine Z86 ?_; refine Z0c rfl (fun w' hb => neq63 rfl rfl) ?_) | (refine Z0q ?_; first | (refine Z0c rfl (fun w' hb => Z07 (hr.mono (S.grow hb).below) rfl rfl ?_ ?_) ?_; (first | omega | simp <;> omega); (first | omega | simp <;> omega)) | (refine Z0c rfl (fun w' hb => Z07 (hr2.mono (S.grow hb).below) rfl rfl ?_ ?_) ?_; (first | omega | simp <;> omega); (first | omega | simp <;> omega))) | (refine Z1f ?_; first | (refine Z0c rfl (fun w' hb => Z19 (hr.mono (S.grow hb).below) rfl ?_ ?_) ?_; (first | omega | simp <;> omega); (first | omega | simp <;> omega)) | (refine Z0c rfl (fun w' hb => Z19 (hr2.mono (S.grow hb).below) rfl ?_ ?_) ?_; (first | omega | simp <;> omega); (first | omega | simp <;> omega))) | (refine Z0g rfl (fun h => ?_) (fun h => ?_) <;> (fail_if_success first | have := ntT h | have := ntF h) <;> (try simp only [tdyB] at h) <;> (try (exfalso; omega))))
 ·refine end1 rfl rfl ⟨rb ?_, S.below⟩
  symm; rw [decide_eq_false_iff_not]; rintro rfl
  simp at h
 ·refine ⟨⟨_, ?_, i + 1, ⟨rfl, rfl, rfl, trivial⟩, S, by omega, by omega, rfl, fun j h0 h1 => ?_⟩⟩
  ·omega
  ·by_cases e : j = i
   ·subst e; first | exact h | exact of_decide_eq_true h
   ·exact hall j h0 (by omega)
 ·refine end1 rfl rfl ⟨rb ?_, S.below⟩
  symm; rw [decide_eq_true_iff]
  exact Zd5 (by omega) fun j h0 h1 => hall j h0 (by omega)

theorem Zjw {v v2 : Value} {l m : List GSpot} {b : Bool} {w : World} (h : decide (l = m) = b) (hr : Rd Z1d.ty w v l) (hr2 : Rd Z1d.ty w v2 m) (hl : l.length ≤ 1000000000) (hm : m.length ≤ 1000000000) : CallsV Tryd.prog 20 #[v, v2] w (.bool b) := by
 rw [← h]; exact Zjv hr hr2 hl hm
theorem Zi7 {v v2 : Value} {l m : List GPosting} {w : World} (hr : Rd Z0o.ty w v l) (hr2 : Rd Z0o.ty w v2 m) (hl : l.length ≤ 1000000000) (hm : m.length ≤ 1000000000) :
  CallsV Tryd.prog 37 #[v, v2] w (.bool (decide (l = m))) := by
 have S := St.start w
 obtain ⟨A, c, rfl⟩ := hr.len
 obtain ⟨A2, c2, rfl⟩ := hr2.len
 refine CallsV.mk ?_
 refine Z0l Tryd.func37 rfl (by intro _ h; first | exact nomatch h.1 | (obtain ⟨_, h, _⟩ := h; exact nomatch h)) Tryd.ntmps37 rfl ?_
 repeat' (first | refine Z0a ?_ | refine Z02 ?_ | refine Z08 ?_ | refine Z01 ?_ | refine Z0x ?_ | refine Z0r ?_ | refine Z0k ?_ | refine Z0f ?_ | refine Z06 rfl ?_ | refine Z04 rfl ?_ | refine Z00 rfl (Z33 rfl rfl) ?_ | refine Z00 rfl (Z0e rfl) ?_ | (refine Z0g rfl (fun h => ?_) (fun h => ?_) <;> (fail_if_success first | have := ntT h | have := ntF h) <;> (try simp only [tdyB] at h) <;> (try (exfalso; omega))))
 ·exact end1 rfl rfl ⟨rb (by rw [decide_eq_false]; rintro rfl; omega), S.below⟩
 refine Z1l (fun k σ w1 => ∃ i : Int, Has σ [(0, .slice A l.length c), (1, .slice A2 m.length c2), (5, .int .i64 i)] ∧ St w w1 [] ∧ 0 ≤ i ∧ i ≤ l.length ∧ k = l.length - i.toNat ∧ ∀ j : Int, 0 ≤ j → j < i → nth l j = nth m j) l.length ⟨0, ⟨rfl, rfl, rfl, trivial⟩, S, by omega, by omega, by omega, fun j h0 h1 => by omega⟩ ?_
 rintro k σ w1 ⟨i, hs, S, hi0, hi1, rfl, hall⟩
 refine Z1o hs ?_
 repeat' (first | refine Z0a ?_ | refine Z02 ?_ | refine Z08 ?_ | refine Z01 ?_ | refine Z0h ?_ | refine Z0s ?_ | refine Z15 ?_ | refine Z0x ?_ | refine Z27 ?_ | refine Z0r ?_ | refine Z0k ?_ | refine Z1b ?_ | refine Z0f ?_ | refine Z1s (by kernel_rfl) (by kernel_rfl) ?_ | (refine Z1q ?_; intro w hb; replace S := S.grow hb; clear hb) | refine Z06 rfl ?_ | refine Z04 rfl ?_ | ((refine Z00 rfl (Z12 rfl rfl ?_ ?_) ?_; (first | omega | simp <;> omega); (first | omega | simp <;> omega))) | refine Z00 rfl (Z0z rfl rfl) ?_ | refine Z00 rfl (Z0e rfl) ?_ | (refine Z1e ?_; refine Z1r rfl ?_) | (refine Z86 ?_; refine Z0c rfl (fun w' hb => neq84 rfl rfl) ?_) | (refine Z0q ?_; first | (refine Z0c rfl (fun w' hb => Z07 (hr.mono (S.grow hb).below) rfl rfl ?_ ?_) ?_; (first | omega | simp <;> omega); (first | omega | simp <;> omega)) | (refine Z0c rfl (fun w' hb => Z07 (hr2.mono (S.grow hb).below) rfl rfl ?_ ?_) ?_; (first | omega | simp <;> omega); (first | omega | simp <;> omega))) | (refine Z1f ?_; first | (refine Z0c rfl (fun w' hb => Z19 (hr.mono (S.grow hb).below) rfl ?_ ?_) ?_; (first | omega | simp <;> omega); (first | omega | simp <;> omega)) | (refine Z0c rfl (fun w' hb => Z19 (hr2.mono (S.grow hb).below) rfl ?_ ?_) ?_; (first | omega | simp <;> omega); (first | omega | simp <;> omega))) | (refine Z0g rfl (fun h => ?_) (fun h => ?_) <;> (fail_if_success first | have := ntT h | have := ntF h) <;> (try simp only [tdyB] at h) <;> (try (exfalso; omega))))
 ·refine end1 rfl rfl ⟨rb ?_, S.below⟩
  symm; rw [decide_eq_false_iff_not]; rintro rfl
  simp at h
 ·refine ⟨⟨_, ?_, i + 1, ⟨rfl, rfl, rfl, trivial⟩, S, by omega, by omega, rfl, fun j h0 h1 => ?_⟩⟩
  ·omega
  ·by_cases e : j = i
   ·subst e; first | exact h | exact of_decide_eq_true h
   ·exact hall j h0 (by omega)
 ·refine end1 rfl rfl ⟨rb ?_, S.below⟩
  symm; rw [decide_eq_true_iff]
  exact Zd5 (by omega) fun j h0 h1 => hall j h0 (by omega)

theorem Zjx {v v2 : Value} {l m : List Int} {w : World} (hr : Rd (fInt .i64).ty w v l) (hr2 : Rd (fInt .i64).ty w v2 m) (hl : l.length ≤ 1000000000) (hm : m.length ≤ 1000000000) :
  CallsV Tryd.prog 21 #[v, v2] w (.bool (decide (l = m))) := by
 have S := St.start w
 obtain ⟨A, c, rfl⟩ := hr.len
 obtain ⟨A2, c2, rfl⟩ := hr2.len
 refine CallsV.mk ?_
 refine Z0l Tryd.func21 rfl (by intro _ h; first | exact nomatch h.1 | (obtain ⟨_, h, _⟩ := h; exact nomatch h)) Tryd.ntmps21 rfl ?_
 repeat' (first | refine Z0a ?_ | refine Z02 ?_ | refine Z08 ?_ | refine Z01 ?_ | refine Z0x ?_ | refine Z0r ?_ | refine Z0k ?_ | refine Z0f ?_ | refine Z06 rfl ?_ | refine Z04 rfl ?_ | refine Z00 rfl (Z33 rfl rfl) ?_ | refine Z00 rfl (Z0e rfl) ?_ | (refine Z0g rfl (fun h => ?_) (fun h => ?_) <;> (fail_if_success first | have := ntT h | have := ntF h) <;> (try simp only [tdyB] at h) <;> (try (exfalso; omega))))
 ·exact end1 rfl rfl ⟨rb (by rw [decide_eq_false]; rintro rfl; omega), S.below⟩
 refine Z1l (fun k σ w1 => ∃ i : Int, Has σ [(0, .slice A l.length c), (1, .slice A2 m.length c2), (5, .int .i64 i)] ∧ St w w1 [] ∧ 0 ≤ i ∧ i ≤ l.length ∧ k = l.length - i.toNat ∧ ∀ j : Int, 0 ≤ j → j < i → nth l j = nth m j) l.length ⟨0, ⟨rfl, rfl, rfl, trivial⟩, S, by omega, by omega, by omega, fun j h0 h1 => by omega⟩ ?_
 rintro k σ w1 ⟨i, hs, S, hi0, hi1, rfl, hall⟩
 refine Z1o hs ?_
 repeat' (first | refine Z0a ?_ | refine Z02 ?_ | refine Z08 ?_ | refine Z01 ?_ | refine Z0h ?_ | refine Z0s ?_ | refine Z15 ?_ | refine Z0x ?_ | refine Z27 ?_ | refine Z0r ?_ | refine Z0k ?_ | refine Z1b ?_ | refine Z0f ?_ | refine Z1s (by kernel_rfl) (by kernel_rfl) ?_ | (refine Z1q ?_; intro w hb; replace S := S.grow hb; clear hb) | refine Z06 rfl ?_ | refine Z04 rfl ?_ | ((refine Z00 rfl (Z12 rfl rfl ?_ ?_) ?_; (first | omega | simp <;> omega); (first | omega | simp <;> omega))) | refine Z00 rfl (Z0z rfl rfl) ?_ | refine Z00 rfl (Z0e rfl) ?_ | (refine Z1e ?_; refine Z1r rfl ?_) | (refine Z86 ?_; refine Z0c rfl (fun w' hb => Z33 rfl rfl) ?_) | (refine Z0q ?_; first | (refine Z0c rfl (fun w' hb => Z07 (hr.mono (S.grow hb).below) rfl rfl ?_ ?_) ?_; (first | omega | simp <;> omega); (first | omega | simp <;> omega)) | (refine Z0c rfl (fun w' hb => Z07 (hr2.mono (S.grow hb).below) rfl rfl ?_ ?_) ?_; (first | omega | simp <;> omega); (first | omega | simp <;> omega))) | (refine Z1f ?_; first | (refine Z0c rfl (fun w' hb => Z0i (hr.mono (S.grow hb).below) rfl ?_ ?_ rfl) ?_; (first | omega | simp <;> omega); (first | omega | simp <;> omega)) | (refine Z0c rfl (fun w' hb => Z0i (hr2.mono (S.grow hb).below) rfl ?_ ?_ rfl) ?_; (first | omega | simp <;> omega); (first | omega | simp <;> omega))) | (refine Z0g rfl (fun h => ?_) (fun h => ?_) <;> (fail_if_success first | have := ntT h | have := ntF h) <;> (try simp only [tdyB] at h) <;> (try (exfalso; omega))))
 ·refine end1 rfl rfl ⟨rb ?_, S.below⟩
  symm; rw [decide_eq_false_iff_not]; rintro rfl
  simp at h
 ·refine ⟨⟨_, ?_, i + 1, ⟨rfl, rfl, rfl, trivial⟩, S, by omega, by omega, rfl, fun j h0 h1 => ?_⟩⟩
  ·omega
  ·by_cases e : j = i
   ·subst e; first | exact h | exact of_decide_eq_true h | (simp at h; exact h)
   ·exact hall j h0 (by omega)
 ·refine end1 rfl rfl ⟨rb ?_, S.below⟩
  symm; rw [decide_eq_true_iff]
  exact Zd5 (by omega) fun j h0 h1 => hall j h0 (by omega)
theorem Z82 {v v2 : Value} {l m : List Int} {b : Bool} {w : World} (h : decide (l = m) = b) (hr : Rd (fInt .i64).ty w v l) (hr2 : Rd (fInt .i64).ty w v2 m) (hl : l.length ≤ 1000000000) (hm : m.length ≤ 1000000000) : CallsV Tryd.prog 21 #[v, v2] w (.bool b) := by
 rw [← h]; exact Zjx hr hr2 hl hm

def okWs (w : List Int) : Bool := decide (w.length ≤ 16) && w.all fun x => inR x 0 1000000
def okSh (t : Int) (w : List Int) : Bool := okWs w && (decide (sumW w ≠ 0) && inR t 0 1000000000000)
def shI (t : Int) (w : List Int) : List Int × Int := if okSh t w then (shW t w, 0) else ([], 390)
theorem Z6h {w : List Int} (h : okWs w = true) {i : Int} (h0 : 0 ≤ i) (hi : i < w.length) : 0 ≤ nth w i ∧ nth w i ≤ 1000000 := by
 unfold okWs at h
 rw [Bool.and_eq_true] at h
 have := List.all_eq_true.1 h.2 _ (Z2e h0 hi)
 exact of_decide_eq_true this
theorem okWs_len {w : List Int} (h : okWs w = true) : w.length ≤ 16 := by
 unfold okWs at h
 rw [Bool.and_eq_true] at h
 exact of_decide_eq_true h.1
theorem Zjz {w : List Int} (hl : w.length ≤ 16) (h : ∀ j : Int, 0 ≤ j → j < w.length → inR (nth w j) 0 1000000 = true) : okWs w = true := by
 unfold okWs
 rw [Bool.and_eq_true]
 refine ⟨decide_eq_true hl, List.all_eq_true.2 fun x hx => ?_⟩
 obtain ⟨j, hj⟩ := List.getElem?_of_mem hx
 have hlt := (List.getElem?_eq_some_iff.1 hj).1
 have h2 := Z1u (l := w) (i := j) (by omega) (by omega)
 rw [Int.toNat_natCast, hj] at h2
 rw [Option.some.inj h2]; exact h j (by omega) (by omega)
theorem Zd6 {w : List Int} {i : Int} (h0 : 0 ≤ i) (hi : i < w.length) (h : inR (nth w i) 0 1000000 = false ∨ 16 < w.length) : okWs w = false := by
 cases e : okWs w with
 | false => rfl
 | true =>
  rcases h with h | h
  ·have := Z6h e h0 hi; unfold inR at h; exact absurd this (of_decide_eq_false h)
  ·have := okWs_len e; omega
theorem Zc9 {f : Nat → Int} {n : Nat} (h : ∀ k, k < n → 0 ≤ f k ∧ f k ≤ 1000000) : 0 ≤ sumN f n ∧ sumN f n ≤ 1000000 * n := by
 have h1 := @Z5r f n fun k hk => (h k hk).1
 have h2 := @Zb6 f (fun _ => 1000000) n fun k hk => (h k hk).2
 rw [Z66] at h2
 exact ⟨h1, h2⟩
theorem Z67 {t x : Int} (ht : 0 ≤ t ∧ t ≤ 1000000000000) (hx : 0 ≤ x ∧ x ≤ 1000000) : 0 ≤ t * x ∧ t * x ≤ 1000000000000000000 :=
 ⟨Int.mul_nonneg ht.1 hx.1, by have := Int.mul_le_mul ht.2 hx.2 hx.1 (by omega : (0 : Int) ≤ 1000000000000); omega⟩
theorem Zk0 {t s : Int} {w : List Int} {v : Value} {b2 b3 b6 : Nat} {x y : Int} {w0 : World} (h2 : Z32 w0 ⟨b2, 0, none⟩ [.int .i64 t]) (h3 : Z32 w0 ⟨b3, 0, none⟩ [v]) (h6 : Z32 w0 ⟨b6, 0, none⟩ [.int .i64 s])
  (hr : Rd (fInt .i64).ty w0 v w) (hok : okWs w = true) (ht : 0 ≤ t ∧ t ≤ 1000000000000) (hs : 0 < s) (hs2 : s ≤ 100000000) (hx : 0 ≤ x ∧ x < w.length) (hy : 0 ≤ y ∧ y < w.length) :
  CallsV Tryd.prog 63 #[.int .i64 x, .int .i64 y, .pointer (some ⟨b2, 0, none⟩), .pointer (some ⟨b3, 0, none⟩), .pointer (some ⟨b6, 0, none⟩)] w0 (.int .i64 (cmpW t s w x y)) := by
 have S := St.start w0
 obtain ⟨A, c, rfl⟩ := hr.len
 have m1 := Z67 ht (Z6h hok hx.1 hx.2)
 have m2 := Z67 ht (Z6h hok hy.1 hy.2)
 refine CallsV.mk ?_
 refine Z0l Tryd.func63 rfl (by intro _ h; first | exact nomatch h.1 | (obtain ⟨_, h, _⟩ := h; exact nomatch h)) Tryd.ntmps63 rfl ?_
 repeat' (first | refine Z0a ?_ | refine Z02 ?_ | refine Z08 ?_ | refine Z01 ?_ | refine Z0r ?_ | refine Z1s (by kernel_rfl) (by kernel_rfl) ?_ | (refine Z1q ?_; intro w hb; replace S := S.grow hb; clear hb) | refine Z04 rfl ?_ | (refine Z1e ?_; refine Z1r rfl ?_) | (refine Z42 ?_; refine Z4g rfl ?_) | (refine Z75 ?_; (refine Z0c rfl (fun w' hb => Z5f rfl rfl ?_ ?_) ?_; (first | omega | simp <;> omega); (first | omega | simp <;> omega))) | (refine Z9s ?_; (refine Z0c rfl (fun w' hb => Z7i rfl rfl ?_ ?_) ?_; (first | omega | simp <;> omega); (first | omega | simp <;> omega))) | (refine Z0q ?_; (refine Z0c rfl (fun w' hb => Z07 (hr.mono (S.grow hb).below) rfl rfl ?_ ?_) ?_; (first | omega | simp <;> omega); (first | omega | simp <;> omega))) | (refine Z1f ?_; first | refine Z0c rfl (fun w' hb => Z40 (h2.mono (S.grow hb).below) rfl rfl) ?_ | refine Z0c rfl (fun w' hb => Z40 (h3.mono (S.grow hb).below) rfl rfl) ?_ | refine Z0c rfl (fun w' hb => Z40 (h6.mono (S.grow hb).below) rfl rfl) ?_ | (refine Z0c rfl (fun w' hb => Z0i (hr.mono (S.grow hb).below) rfl ?_ ?_ rfl) ?_; (first | omega | simp <;> omega); (first | omega | simp <;> omega))) | (refine Z1v ?_; refine Z20 rfl (fun w' hb => Z0w rfl rfl rfl) (fun w' hb => Ze6) ?_))
 exact end1 rfl rfl ⟨rfl, S.below⟩

theorem Z9i {t : Int} {ws : List Int} (h : okSh t ws = false) : shI t ws = ([], 390) := by unfold shI; rw [h]; rfl
theorem Zgy {t : Int} {ws : List Int} (h : okWs ws = false) : okSh t ws = false := by unfold okSh; rw [h]; rfl
theorem Zk1 {t : Int} {ws : List Int} (h : sumW ws = 0) : okSh t ws = false := by unfold okSh; rw [decide_eq_false (fun h2 => h2 h)]; simp
theorem okSh_t {t : Int} {ws : List Int} (h : inR t 0 1000000000000 = false) : okSh t ws = false := by unfold okSh; rw [h]; simp
theorem Za8 {f : Nat → Int} {n : Nat} {a : Int} (h : ∀ k, k < n → f k = a) : List.replicate n a = tab f n := by
 refine (List.eq_replicate_iff.2 ⟨Z2s, fun b hb => ?_⟩).symm
 unfold tab at hb
 obtain ⟨k, hk, rfl⟩ := List.mem_map.1 hb
 exact h k (List.mem_range.1 hk)
theorem Za9 {f g : Nat → Int} {N i : Nat} {j x : Int} (h : i < N) (hj : j = i) (hg : ∀ k, k < N → (if k = i then x else f k) = g k) : (tab f N).set j.toNat x = tab g N := by
 rw [Z5c h hj]; exact Z7x hg
theorem Zk2 {f : Nat → Int} {i : Nat} : ∀ {n : Nat}, i < n → (∀ k, k < n → 0 ≤ f k) → f i ≤ sumN f n
 | 0, h, _ => by omega
 | n + 1, h, hf => by
  rw [sumN]
  by_cases e : i = n
  ·subst e; have := @Z5r f i fun k hk => hf k (by omega); omega
  ·have h1 := Zk2 (f := f) (i := i) (n := n) (by omega) fun k hk => hf k (by omega)
   have := hf n (by omega); omega
theorem Zd7 {f : Nat → Int} {n : Nat} {a : Int} (h : ∀ k, k < n → 0 ≤ f k ∧ f k ≤ a) : 0 ≤ sumN f n ∧ sumN f n ≤ a * n := by
 have h1 := @Z5r f n fun k hk => (h k hk).1
 have h2 := @Zb6 f (fun _ => a) n fun k hk => (h k hk).2
 rw [Z66] at h2
 exact ⟨h1, h2⟩
theorem Zd8 {t s : Int} {ws : List Int} (hok : okWs ws = true) (ht : 0 ≤ t ∧ t ≤ 1000000000000) (hse : sumW ws = s) (hs : 0 < s) {k : Nat} (hk : k < ws.length) : 0 ≤ quoW t s ws k ∧ quoW t s ws k ≤ 1000000000000 := by
 have h1 : nth ws (k : Int) ≤ s := by rw [← hse]; exact Zk2 (f := fun k => nth ws (k : Int)) hk fun j hj => (Z6h hok (by omega) (by omega)).1
 have h0 := Z6h hok (i := (k : Int)) (by omega) (by omega)
 unfold quoW
 refine ⟨Int.ediv_nonneg (Int.mul_nonneg ht.1 h0.1) (by omega), ?_⟩
 have h2 : t * nth ws (k : Int) ≤ t * s := Int.mul_le_mul_of_nonneg_left h1 ht.1
 have h3 := Int.ediv_le_ediv hs h2
 rw [Int.mul_ediv_cancel _ (by omega)] at h3
 omega
set_option maxHeartbeats 1000000 in
theorem Z93 {t : Int} {ws : List Int} {v : Value} {w0 : World} (hr : Rd (fInt .i64).ty w0 v ws) (hl : ws.length ≤ 1000000000) :
  CallsR Tryd.prog 27 #[.int .i64 t, v] w0 (RowE w0 (shI t ws)) := by
 have S := St.start w0
 obtain ⟨A, c, rfl⟩ := hr.len
 refine CallsR.mk ?_
 refine Z0l Tryd.func27 rfl (by intro _ h; first | exact nomatch h.1 | (obtain ⟨_, h, _⟩ := h; exact nomatch h)) Tryd.ntmps27 rfl ?_
 repeat' (first | refine Z0a ?_ | refine Z02 ?_ | refine Z08 ?_ | refine Z01 ?_ | refine Z0f ?_ | refine Z06 rfl ?_ | refine Z04 rfl ?_ | refine Z00 rfl (Z0e rfl) ?_ | refine Z00 rfl (Z0b (i := 1) S rfl rfl rfl) ?_ | (refine Z2g ?_; refine Z0n rfl (Z2h S rfl) ?_; rintro _ w ⟨b, rfl, -, S'⟩; replace S := S'; clear S') | (refine Z0n rfl (Z1i S) ?_; rintro _ w ⟨b, rfl, -, S'⟩; replace S := S'; clear S') | (first | (refine Z05 rfl (Z03 (i := 0) S rfl rfl rfl rfl (dqq rfl) (dqq rfl)) ?_; clear S; intro w S) | (refine Z05 rfl (Z03 (i := 1) S rfl rfl rfl rfl (dqq rfl) (dqq rfl)) ?_; clear S; intro w S) | (refine Z05 rfl (Z03 (i := 2) S rfl rfl rfl rfl (dqq rfl) (dqq rfl)) ?_; clear S; intro w S)))
 rename_i b2 _ b3 _
 obtain ⟨b6, rfl⟩ : ∃ x, x = b := ⟨_, rfl⟩
 refine Z1l (fun m σ w1 => ∃ (i : Int), Has σ [(2, .pointer (some ⟨b2, 0, none⟩)), (3, .pointer (some ⟨b3, 0, none⟩)), (6, .pointer (some ⟨b6, 0, none⟩)), (16, .slice A ws.length c), (17, .int .i64 ws.length), (18, .int .i64 i)] ∧ St w0 w1 [.var b2 3 [.int .i64 t], .var b3 28 [.slice A ws.length c], .var b6 3 [.int .i64 (sumN (fun k => nth ws (k : Int)) i.toNat)]] ∧ 0 ≤ i ∧ i ≤ ws.length ∧ (∀ j : Int, 0 ≤ j → j < i → inR (nth ws j) 0 1000000 = true) ∧ (0 < i → ws.length ≤ 16) ∧ m = ws.length - i.toNat) ws.length ⟨0, ⟨rfl, rfl, rfl, rfl, rfl, rfl, trivial⟩, S, by omega, by omega, fun j p q => by omega, fun h => by omega, by omega⟩ ?_
 clear S
 rintro m σ w1 ⟨i, hs, S, hi0, hi1, hall, h16, rfl⟩
 refine Z1o hs ?_
 have hsb := @Zc9 (fun k => nth ws (k : Int)) i.toNat fun k hk => of_decide_eq_true (hall k (by omega) (by omega))
 by_cases hi : i < ws.length
 ·cases hb : inR (nth ws i) 0 1000000 with
  | false =>
   have e := Z9i (Zgy (t := t) (Zd6 hi0 hi (.inl hb)))
   repeat' (first | refine Z0a ?_ | refine Z02 ?_ | refine Z08 ?_ | refine Z01 ?_ | refine Z0x ?_ | refine Z27 ?_ | refine Z0r ?_ | refine Z0k ?_ | refine Z0f ?_ | refine Z0v rfl ?_ | (refine Z1c ?_; refine Z1p rfl ?_) | refine Z06 rfl ?_ | refine Z04 rfl ?_ | refine Z0u rfl rfl ?_ | refine Z00 rfl (Z0z rfl rfl) ?_ | refine Z00 rfl (Z1w rfl) ?_ | ((refine Z00 rfl (Z07 (hr.mono S.below) rfl rfl ?_ ?_) ?_; (first | omega | simp <;> omega); (first | omega | simp <;> omega))) | ((refine Z00 rfl (Z0i (hr.mono S.below) rfl ?_ ?_ rfl) ?_; (first | omega | simp <;> omega); (first | omega | simp <;> omega))) | ((refine Z0j rfl (Z1t rfl rfl rfl rfl) (Z81 hb) ?_; intro w hb; replace S := S.grow hb; clear hb)) | (refine Z0g rfl (fun h => ?_) (fun h => ?_) <;> (fail_if_success first | have := ntT h | have := ntF h) <;> (try simp only [tdyB] at h) <;> (try (exfalso; omega))))
   exact end2 rfl rfl rfl ⟨_, rfl, S.below, _, by rw [e]; rfl, by rw [e]; exact Z2u.nil _ _ _ _⟩
  | true =>
   by_cases hn : 16 < ws.length
   ·have e := Z9i (Zgy (t := t) (Zd6 hi0 hi (.inr hn)))
    repeat' (first | refine Z0a ?_ | refine Z02 ?_ | refine Z08 ?_ | refine Z01 ?_ | refine Z0x ?_ | refine Z27 ?_ | refine Z0r ?_ | refine Z0k ?_ | refine Z0f ?_ | refine Z06 rfl ?_ | refine Z04 rfl ?_ | refine Z0t rfl rfl ?_ | refine Z00 rfl (Z0z rfl rfl) ?_ | refine Z00 rfl (Z2o rfl rfl) ?_ | refine Z00 rfl (Z1w rfl) ?_ | refine Z00 rfl (Z0e rfl) ?_ | ((refine Z00 rfl (Z07 (hr.mono S.below) rfl rfl ?_ ?_) ?_; (first | omega | simp <;> omega); (first | omega | simp <;> omega))) | (first | (refine Z00 rfl (Z0i (hr.mono S.below) rfl ?_ ?_ rfl) ?_; (first | omega | simp <;> omega); (first | omega | simp <;> omega)) | refine Z00 rfl (Z0b (i := 1) S rfl rfl rfl) ?_) | ((refine Z0j rfl (Z1t rfl rfl rfl rfl) (Z81 hb) ?_; intro w hb; replace S := S.grow hb; clear hb)) | (refine Z0g rfl (fun h => ?_) (fun h => ?_) <;> (fail_if_success first | have := ntT h | have := ntF h) <;> (try simp only [tdyB] at h) <;> (try (exfalso; omega))))
    exact end2 rfl rfl rfl ⟨_, rfl, S.below, _, by rw [e]; rfl, by rw [e]; exact Z2u.nil _ _ _ _⟩
   ·have hbb : 0 ≤ nth ws i ∧ nth ws i ≤ 1000000 := of_decide_eq_true hb
    repeat' (first | refine Z0a ?_ | refine Z02 ?_ | refine Z08 ?_ | refine Z01 ?_ | refine Z0h ?_ | refine Z0k ?_ | refine Z0f ?_ | refine Z06 rfl ?_ | refine Z04 rfl ?_ | refine Z0t rfl rfl ?_ | ((refine Z00 rfl (Z12 rfl rfl ?_ ?_) ?_; (first | omega | simp <;> omega); (first | omega | simp <;> omega))) | refine Z00 rfl (Z0z rfl rfl) ?_ | refine Z00 rfl (Z2o rfl rfl) ?_ | refine Z00 rfl (Z1w rfl) ?_ | refine Z00 rfl (Z0e rfl) ?_ | ((refine Z00 rfl (Z07 (hr.mono S.below) rfl rfl ?_ ?_) ?_; (first | omega | simp <;> omega); (first | omega | simp <;> omega))) | (first | (refine Z00 rfl (Z0i (hr.mono S.below) rfl ?_ ?_ rfl) ?_; (first | omega | simp <;> omega); (first | omega | simp <;> omega)) | refine Z00 rfl (Z0b (i := 1) S rfl rfl rfl) ?_ | refine Z00 rfl (Z0b (i := 2) S rfl rfl rfl) ?_) | ((refine Z0j rfl (Z1t rfl rfl rfl rfl) (Z81 hb) ?_; intro w hb; replace S := S.grow hb; clear hb)) | (first | (refine Z05 rfl (Z03 (i := 0) S rfl rfl rfl rfl (dqq rfl) (dqq rfl)) ?_; clear S; intro w S) | (refine Z05 rfl (Z03 (i := 1) S rfl rfl rfl rfl (dqq rfl) (dqq rfl)) ?_; clear S; intro w S) | (refine Z05 rfl (Z03 (i := 2) S rfl rfl rfl rfl (dqq rfl) (dqq rfl)) ?_; clear S; intro w S)) | (refine Z0g rfl (fun h => ?_) (fun h => ?_) <;> (fail_if_success first | have := ntT h | have := ntF h) <;> (try simp only [tdyB] at h) <;> (try (exfalso; omega))))
    refine ⟨⟨_, ?_, i + 1, ⟨rfl, rfl, rfl, rfl, rfl, rfl, trivial⟩, ?_, by omega, by omega, fun j p q => ?_, fun _ => by omega, rfl⟩⟩
    ·omega
    ·rw [show (i + 1).toNat = i.toNat + 1 by omega, sumN, show ((i.toNat : Nat) : Int) = i by omega]
     exact S
    ·by_cases e : j = i
     ·subst e; exact hb
     ·exact hall j p (by omega)
 have hit : i.toNat = ws.length := by omega
 rw [hit] at S hsb
 obtain ⟨s, hse⟩ : ∃ s, sumW ws = s := ⟨_, rfl⟩
 rw [show sumN (fun k => nth ws (k : Int)) ws.length = s from hse] at S hsb
 by_cases hs0 : s = 0
 ·have e := Z9i (Zk1 (t := t) (hse.trans hs0))
  repeat' (first | refine Z0a ?_ | refine Z02 ?_ | refine Z08 ?_ | refine Z01 ?_ | refine Z0s ?_ | refine Z15 ?_ | refine Z0x ?_ | refine Z0r ?_ | refine Z1b ?_ | refine Z0v rfl ?_ | (refine Z1c ?_; refine Z1p rfl ?_) | refine Z06 rfl ?_ | refine Z04 rfl ?_ | refine Z0u rfl rfl ?_ | refine Z00 rfl (Z2k rfl rfl) ?_ | refine Z00 rfl (Z0z rfl rfl) ?_ | refine Z00 rfl (Z0b (i := 2) S rfl rfl rfl) ?_ | (refine Z13 rfl rfl (fun h => ?_) (fun h => ?_) <;> (fail_if_success first | have := ntT h | have := ntF h) <;> (try simp only [tdyB] at h) <;> (try (exfalso; omega)) <;> (try (exfalso; exact absurd hs0 (by simpa using h); done))) | (refine Z0g rfl (fun h => ?_) (fun h => ?_) <;> (fail_if_success first | have := ntT h | have := ntF h) <;> (try simp only [tdyB] at h) <;> (try (exfalso; omega)) <;> (try (exfalso; exact absurd hs0 (by simpa using h); done))))
  exact end2 rfl rfl rfl ⟨_, rfl, S.below, _, by rw [e]; rfl, by rw [e]; exact Z2u.nil _ _ _ _⟩
 have hspos : 0 < s := by omega
 have hlen : 0 < ws.length := by
  rcases Nat.eq_zero_or_pos ws.length with h | h
  ·exact absurd (show s = 0 by rw [← hse]; unfold sumW; rw [h]; rfl) hs0
  ·exact h
 have hl16 : ws.length ≤ 16 := h16 (by omega)
 cases htb : inR t 0 1000000000000 with
 | false =>
  have e := Z9i (okSh_t (ws := ws) htb)
  repeat' (first | refine Z0a ?_ | refine Z02 ?_ | refine Z08 ?_ | refine Z01 ?_ | refine Z0s ?_ | refine Z15 ?_ | refine Z0x ?_ | refine Z0r ?_ | refine Z1b ?_ | refine Z0v rfl ?_ | refine Z06 rfl ?_ | refine Z04 rfl ?_ | refine Z0t rfl rfl ?_ | refine Z00 rfl (Z2k rfl rfl) ?_ | refine Z00 rfl (Z0z rfl rfl) ?_ | refine Z00 rfl (Z1w rfl) ?_ | (first | refine Z00 rfl (Z0b (i := 0) S rfl rfl rfl) ?_ | refine Z00 rfl (Z0b (i := 2) S rfl rfl rfl) ?_) | ((refine Z0j rfl (Z1t rfl rfl rfl rfl) (Z81 htb) ?_; intro w hb; replace S := S.grow hb; clear hb)) | (refine Z13 rfl rfl (fun h => ?_) (fun h => ?_) <;> (fail_if_success first | have := ntT h | have := ntF h) <;> (try simp only [tdyB] at h) <;> (try (exfalso; omega)) <;> (try (exfalso; exact absurd (by simpa using h) hs0; done))) | (refine Z0g rfl (fun h => ?_) (fun h => ?_) <;> (fail_if_success first | have := ntT h | have := ntF h) <;> (try simp only [tdyB] at h) <;> (try (exfalso; omega)) <;> (try (exfalso; exact absurd (by simpa using h) hs0; done))))
  exact end2 rfl rfl rfl ⟨_, rfl, S.below, _, by rw [e]; rfl, by rw [e]; exact Z2u.nil _ _ _ _⟩
 | true =>
 have ht : 0 ≤ t ∧ t ≤ 1000000000000 := of_decide_eq_true htb
 have hok : okWs ws = true := Zjz hl16 fun j p q => hall j p (by omega)
 have e : shI t ws = (shP t s ws (Zbu t s ws).toNat, 0) := by
  unfold shI okSh
  rw [hok, htb, decide_eq_true (by rw [hse]; exact hs0)]
  unfold shW
  rw [hse]; rfl
 rw [e]
 clear e
 repeat' (first | refine Z0a ?_ | refine Z02 ?_ | refine Z08 ?_ | refine Z01 ?_ | refine Z0s ?_ | refine Z15 ?_ | refine Z0k ?_ | refine Z1b ?_ | refine Z18 rfl ?_ | refine Z06 rfl ?_ | refine Z0t rfl rfl ?_ | refine Z00 rfl (Z2k rfl rfl) ?_ | refine Z00 rfl (Z0z rfl rfl) ?_ | refine Z00 rfl (Z1w rfl) ?_ | (first | refine Z00 rfl (Z0b (i := 0) S rfl rfl rfl) ?_ | refine Z00 rfl (Z0b (i := 2) S rfl rfl rfl) ?_) | ((refine Z0j rfl (Z1t rfl rfl rfl rfl) (Z81 htb) ?_; intro w hb; replace S := S.grow hb; clear hb)) | (refine Z13 rfl rfl (fun h => ?_) (fun h => ?_) <;> (fail_if_success first | have := ntT h | have := ntF h) <;> (try simp only [tdyB] at h) <;> (try (exfalso; omega)) <;> (try (exfalso; exact absurd (by simpa using h) hs0; done))) | (refine Z0g rfl (fun h => ?_) (fun h => ?_) <;> (fail_if_success first | have := ntT h | have := ntF h) <;> (try simp only [tdyB] at h) <;> (try (exfalso; omega)) <;> (try (exfalso; exact absurd (by simpa using h) hs0; done))))
 refine Z2c (fun σ w1 => ∃ (vo vt : Value), Has σ [(2, .pointer (some ⟨b2, 0, none⟩)), (3, .pointer (some ⟨b3, 0, none⟩)), (6, .pointer (some ⟨b6, 0, none⟩)), (9, vo), (10, vt), (11, .int .i64 t)] ∧ St w0 w1 [.var b2 3 [.int .i64 t], .var b3 28 [.slice A ws.length c], .var b6 3 [.int .i64 s], Z16 (fInt .i64) 3 vo (List.replicate ws.length 0), Z16 (fInt .i64) 3 vt (List.replicate ws.length 0)]) ?_ ?_
 ·refine WP_drawT (fun w' => St w0 w' [.var b2 3 [.int .i64 t], .var b3 28 [.slice A ws.length c], .var b6 3 [.int .i64 s]]) [0, 1, 3, 4, 6] (.two 2 (.two 5 (.one 7 .fin) 7 (.one 5 .fin)) 5 (.one 2 (.one 7 .fin))) [8, 9] (by kernel_rfl) (by decide) (by decide +kernel) (fun w' hb => S.grow hb) ?_
  intro w hb; replace S := S.grow hb; clear hb
  refine Z0p rfl (fun w' hJ => Z0b (i := 1) hJ rfl rfl rfl) ?_
  refine Z0p rfl (fun w' hJ => Z0e rfl) ?_
  refine Z0p rfl (fun w' hJ => Z0b (i := 1) hJ rfl rfl rfl) ?_
  refine Z0p rfl (fun w' hJ => Z0e rfl) ?_
  refine Z0p rfl (fun w' hJ => Z0b (i := 0) hJ rfl rfl rfl) ?_
  refine Z1z ?_
  refine wt_two ?_ ?_
  ·refine Z2i rfl (Z5o (D := fInt .i64) (m := ws.length) 0 S rfl rfl rfl (by decide) (by omega) (by omega)) ?_; rintro vo w ⟨b, hvvo, -, S'⟩; refine ⟨S'.keep [true, true, true], ?_⟩; replace S := S'; clear S'
   refine wt_two ?_ ?_
   ·refine Z2i rfl (Z5o (D := fInt .i64) (m := ws.length) 0 S rfl rfl rfl (by decide) (by omega) (by omega)) ?_; rintro vt w ⟨b, hvvt, -, S'⟩; refine ⟨S'.keep [true, true, true], ?_⟩; replace S := S'; clear S'
    refine Zgx ?_
    refine Z2i (R := fun v w' => vo = v ∧ w = w') rfl ⟨_, _, ⟨rfl⟩, rfl, rfl⟩ ?_; rintro _ _ ⟨rfl, rfl⟩; refine ⟨S.keep [true, true, true], ?_⟩
    refine Zjy ?_
    refine Z0p rfl (fun w' hJ => ⟨rfl⟩) ?_
    refine Z0p rfl (fun w' hJ => ⟨rfl⟩) ?_
    refine Z1z ?_
    refine Z1x ?_
    refine Z01 ?_
    exact ⟨vo, vt, ⟨rfl, rfl, rfl, rfl, rfl, rfl, trivial⟩, S⟩
   ·refine Z2i (R := fun v w' => vo = v ∧ w = w') rfl ⟨_, _, ⟨rfl⟩, rfl, rfl⟩ ?_; rintro _ _ ⟨rfl, rfl⟩; refine ⟨S.keep [true, true, true], ?_⟩
    refine Zgx ?_
    refine Z2i rfl (Z5o (D := fInt .i64) (m := ws.length) 0 S rfl rfl rfl (by decide) (by omega) (by omega)) ?_; rintro vt w ⟨b, hvvt, -, S'⟩; refine ⟨S'.keep [true, true, true], ?_⟩; replace S := S'; clear S'
    refine Zjy ?_
    refine Z0p rfl (fun w' hJ => ⟨rfl⟩) ?_
    refine Z0p rfl (fun w' hJ => ⟨rfl⟩) ?_
    refine Z1z ?_
    refine Z1x ?_
    refine Z01 ?_
    exact ⟨vo, vt, ⟨rfl, rfl, rfl, rfl, rfl, rfl, trivial⟩, S⟩
  ·refine Z2i rfl (Z5o (D := fInt .i64) (m := ws.length) 0 S rfl rfl rfl (by decide) (by omega) (by omega)) ?_; rintro vt w ⟨b, hvvt, -, S'⟩; refine ⟨S'.keep [true, true, true], ?_⟩; replace S := S'; clear S'
   refine Zgx ?_
   refine Z2i rfl (Z5o (D := fInt .i64) (m := ws.length) 0 S rfl rfl rfl (by decide) (by omega) (by omega)) ?_; rintro vo w ⟨b, hvvo, -, S'⟩; refine ⟨S'.keep [true, true, true], ?_⟩; replace S := S'; clear S'
   refine Zgx ?_
   refine Z2i (R := fun v w' => vo = v ∧ w = w') rfl ⟨_, _, ⟨rfl⟩, rfl, rfl⟩ ?_; rintro _ _ ⟨rfl, rfl⟩; refine ⟨S.keep [true, true, true], ?_⟩
   refine Zjy ?_
   refine Z0p rfl (fun w' hJ => ⟨rfl⟩) ?_
   refine Z0p rfl (fun w' hJ => ⟨rfl⟩) ?_
   refine Z1z ?_
   refine Z1x ?_
   refine Z01 ?_
   exact ⟨vo, vt, ⟨rfl, rfl, rfl, rfl, rfl, rfl, trivial⟩, S.perm ((List.Perm.swap _ _ []).append_left [_, _, _])⟩
 rintro σ w1 ⟨vo, vt, hs, S⟩
 refine Z1o hs ?_
 repeat' (first | refine Z0a ?_ | refine Z02 ?_ | refine Z08 ?_ | refine Z01 ?_ | refine Z0f ?_ | refine Z06 rfl ?_ | refine Z00 rfl (Z0e rfl) ?_ | refine Z00 rfl (Z0b (i := 1) S rfl rfl rfl) ?_)
 refine Z1l (fun m σ w1 => ∃ (i : Int), Has σ [(2, .pointer (some ⟨b2, 0, none⟩)), (3, .pointer (some ⟨b3, 0, none⟩)), (6, .pointer (some ⟨b6, 0, none⟩)), (9, vo), (10, vt), (11, .int .i64 (t - sumN (fun k => quoW t s ws k) i.toNat)), (48, .slice A ws.length c), (49, .int .i64 ws.length), (50, .int .i64 i)] ∧ St w0 w1 [.var b2 3 [.int .i64 t], .var b3 28 [.slice A ws.length c], .var b6 3 [.int .i64 s], Z16 (fInt .i64) 3 vo (tab (fun k => if k < i.toNat then quoW t s ws k else 0) ws.length), Z16 (fInt .i64) 3 vt (tab (fun k => if k < i.toNat then (k : Int) else 0) ws.length)] ∧ 0 ≤ i ∧ i ≤ ws.length ∧ m = ws.length - i.toNat) ws.length ⟨0, ⟨rfl, rfl, rfl, rfl, rfl, ?_, rfl, rfl, rfl, trivial⟩, ?_, by omega, by omega, by omega⟩ ?_
 ·show Value.int .i64 t = Value.int .i64 (t - 0); rw [Int.sub_zero]
 ·rw [← Za8 (a := 0) (f := fun k => if k < (0 : Int).toNat then quoW t s ws k else 0) (fun k _ => if_neg (by simp)), ← Za8 (a := 0) (f := fun k => if k < (0 : Int).toNat then (k : Int) else 0) (fun k _ => if_neg (by simp))]; exact S
 clear S hs
 rintro m σ w1 ⟨i, hs, S, hi0, hi1, rfl⟩
 refine Z1o hs ?_
 have hqr := fun (k : Nat) (hk : k < ws.length) => Zd8 hok ht hse hspos hk
 have hsq := @Zd7 (fun k => quoW t s ws k) i.toNat 1000000000000 fun k hk => hqr k (by omega)
 by_cases hi : i < ws.length
 ·have hm := Z67 ht (Z6h hok hi0 hi)
  have hq := hqr i.toNat (by omega)
  rw [show ((i.toNat : Nat) : Int) = i by omega] at hq
  have hl1 := @Z2s (fun k => if k < i.toNat then quoW t s ws k else 0) ws.length
  have hl2 := @Z2s (fun k => if k < i.toNat then (k : Int) else 0) ws.length
  repeat' (first | refine Z0a ?_ | refine Z02 ?_ | refine Z08 ?_ | refine Z01 ?_ | refine Z0k ?_ | refine Z0f ?_ | refine Z06 rfl ?_ | refine Z04 rfl ?_ | ((refine Z00 rfl (Z5f rfl rfl ?_ ?_) ?_; (first | omega | simp <;> omega); (first | omega | simp <;> omega))) | ((refine Z00 rfl (Z7h rfl rfl ?_ ?_ ?_) ?_; (first | omega | simp <;> omega); (first | omega | simp <;> omega); (first | omega | simp <;> omega))) | refine Z00 rfl (Z0z rfl rfl) ?_ | (first | (refine Z00 rfl (Z07 (hr.mono S.below) rfl rfl ?_ ?_) ?_; (first | omega | simp <;> omega); (first | omega | simp <;> omega)) | (refine Z00 rfl (Z07 (S.rdRow (D := (fInt .i64)) (i := 3) rfl) rfl rfl ?_ ?_) ?_; (first | omega | simp <;> omega); (first | omega | simp <;> omega))) | (first | (refine Z00 rfl (Z0i (hr.mono S.below) rfl ?_ ?_ rfl) ?_; (first | omega | simp <;> omega); (first | omega | simp <;> omega)) | refine Z00 rfl (Z0b (i := 0) S rfl rfl rfl) ?_ | refine Z00 rfl (Z0b (i := 2) S rfl rfl rfl) ?_) | (refine Z0g rfl (fun h => ?_) (fun h => ?_) <;> (fail_if_success first | have := ntT h | have := ntF h) <;> (try simp only [tdyB] at h) <;> (try (exfalso; omega))))
  refine Z05 rfl (Z29 (i := 3) (D := fInt .i64) S rfl rfl rfl rfl (fun c hc => by cases List.mem_singleton.1 hc; rfl) (by omega) (by omega)) ?_
  clear S; intro w S
  repeat' (((refine Z00 rfl (Z07 (S.rdRow (D := (fInt .i64)) (i := 4) rfl) rfl rfl ?_ ?_) ?_; (first | omega | simp <;> omega); (first | omega | simp <;> omega))))
  refine Z05 rfl (Z29 (i := 4) (D := fInt .i64) S rfl rfl rfl rfl (fun c hc => by cases List.mem_singleton.1 hc; rfl) (by omega) (by omega)) ?_
  intro w S'
  have en : (i + 1).toNat = i.toNat + 1 := by omega
  have ei : ((i.toNat : Nat) : Int) = i := by omega
  have hg1 : ∀ k, k < ws.length → (if k = i.toNat then quoW t s ws i else (if k < i.toNat then quoW t s ws k else 0)) = if k < (i + 1).toNat then quoW t s ws k else 0 := by
   intro k hk
   rw [en]
   by_cases e : k = i.toNat
   ·rw [if_pos e, if_pos (by omega), e, ei]
   ·rw [if_neg e]
    by_cases e2 : k < i.toNat
    ·rw [if_pos e2, if_pos (by omega)]
    ·rw [if_neg e2, if_neg (by omega)]
  have hg2 : ∀ k, k < ws.length → (if k = i.toNat then i else (if k < i.toNat then (k : Int) else 0)) = if k < (i + 1).toNat then (k : Int) else 0 := by
   intro k hk
   rw [en]
   by_cases e : k = i.toNat
   ·rw [if_pos e, if_pos (by omega), e, ei]
   ·rw [if_neg e]
    by_cases e2 : k < i.toNat
    ·rw [if_pos e2, if_pos (by omega)]
    ·rw [if_neg e2, if_neg (by omega)]
  replace S : St w0 w [.var b2 3 [.int .i64 t], .var b3 28 [.slice A ws.length c], .var b6 3 [.int .i64 s], Z16 (fInt .i64) 3 vo (tab (fun k => if k < (i + 1).toNat then quoW t s ws k else 0) ws.length), Z16 (fInt .i64) 3 vt (tab (fun k => if k < (i + 1).toNat then (k : Int) else 0) ws.length)] := by
   have S2 : St w0 w [.var b2 3 [.int .i64 t], .var b3 28 [.slice A ws.length c], .var b6 3 [.int .i64 s], Z16 (fInt .i64) 3 vo ((tab (fun k => if k < i.toNat then quoW t s ws k else 0) ws.length).set i.toNat (quoW t s ws i)), Z16 (fInt .i64) 3 vt ((tab (fun k => if k < i.toNat then (k : Int) else 0) ws.length).set i.toNat i)] := S'
   rw [Za9 (i := i.toNat) (j := i) (by omega) (by omega) hg1, Za9 (i := i.toNat) (j := i) (by omega) (by omega) hg2] at S2
   exact S2
  clear S'
  have hl3 := @Z2s (fun k => if k < (i + 1).toNat then quoW t s ws k else 0) ws.length
  have hn : nth (tab (fun k => if k < (i + 1).toNat then quoW t s ws k else 0) ws.length) i = quoW t s ws i := by rw [Z3d (i := i.toNat) (by omega) (by omega), if_pos (by omega), ei]
  repeat' (first | refine Z02 ?_ | refine Z08 ?_ | refine Z01 ?_ | refine Z0h ?_ | refine Z06 rfl ?_ | refine Z04 rfl ?_ | ((refine Z00 rfl (Z12 rfl rfl ?_ ?_) ?_; (first | omega | simp <;> omega); (first | omega | simp <;> omega))) | ((refine Z00 rfl (Z24 rfl rfl ?_ ?_) ?_; (first | omega | simp <;> omega); (first | omega | simp <;> omega))) | ((refine Z00 rfl (Z07 (S.rdRow (D := (fInt .i64)) (i := 3) rfl) rfl rfl ?_ ?_) ?_; (first | omega | simp <;> omega); (first | omega | simp <;> omega))) | ((refine Z00 rfl (Z0i (S.rdRow (D := (fInt .i64)) (i := 3) rfl) rfl ?_ ?_ rfl) ?_; (first | omega | simp <;> omega); (first | omega | simp <;> omega))))
  refine ⟨⟨_, ?_, i + 1, ⟨rfl, rfl, rfl, rfl, rfl, ?_, rfl, rfl, rfl, trivial⟩, S, by omega, by omega, rfl⟩⟩
  ·omega
  ·show Value.int .i64 (_ - _) = _
   rw [hn, en, sumN, ei]
   congr 1
   omega
 have hil : i.toNat = ws.length := by omega
 rw [hil] at S hs
 repeat' (first | refine Z0a ?_ | refine Z02 ?_ | refine Z08 ?_ | refine Z01 ?_ | refine Z0s ?_ | refine Z15 ?_ | refine Z1b ?_ | refine Z06 rfl ?_ | refine Z00 rfl (Z0z rfl rfl) ?_ | refine Z00 rfl (Zit rfl rfl rfl) ?_ | (refine Z0g rfl (fun h => ?_) (fun h => ?_) <;> (fail_if_success first | have := ntT h | have := ntF h) <;> (try simp only [tdyB] at h) <;> (try (exfalso; omega))))
 have hlr := @Zgt t s ws hspos hse.symm
 obtain ⟨L, hL⟩ : ∃ L, Zbu t s ws = L := ⟨_, rfl⟩
 rw [hL] at hlr
 replace S : St w0 w1 (rowT vt idf ws.length :: [.var b2 3 [.int .i64 t], .var b3 28 [.slice A ws.length c], .var b6 3 [.int .i64 s], Z16 (fInt .i64) 3 vo (shP t s ws 0)]) := by
  rw [Zgv, ← Z7x (f := fun k => if k < ws.length then quoW t s ws k else 0) (g := fun k => quoW t s ws k) (fun k hk => if_pos hk)]
  have e2 : tab idf ws.length = tab (fun k => if k < ws.length then (k : Int) else 0) ws.length := Z7x (fun k hk => (if_pos hk).symm)
  unfold rowT
  rw [e2]
  exact S.perm (List.perm_append_comm (l₁ := [_, _, _, _]) (l₂ := [_]))
 skip
 refine Z35 rfl (Z0w rfl rfl rfl) (Zjt (cf := cmpW t s ws) (kc := 63) (cc := [.pointer (some ⟨b2, 0, none⟩), .pointer (some ⟨b3, 0, none⟩), .pointer (some ⟨b6, 0, none⟩)]) (N := ws.length) ⟨fun f w x y S hx hy => Zk0 (S.var (i := 1) rfl) (S.var (i := 2) rfl) (S.var (i := 3) rfl) (hr.mono S.below) hok ht hspos (by omega) hx hy⟩ (Zi6 t s ws) S hlen (by omega)) ?_
 rintro u w S'
 replace S : St w0 w [Z16 (fInt .i64) 3 vt (Z36 t s ws), .var b2 3 [.int .i64 t], .var b3 28 [.slice A ws.length c], .var b6 3 [.int .i64 s], Z16 (fInt .i64) 3 vo (shP t s ws 0)] := S'
 clear S'
 have htl := @Z4l t s ws
 have hLi : t - sumN (fun k => quoW t s ws k) i.toNat = L := by rw [hil, ← hL]; rfl
 rw [hLi]
 repeat' (first | refine Z0a ?_ | refine Z02 ?_ | refine Z08 ?_ | refine Z01 ?_ | refine Z06 rfl ?_)
 refine Z0n rfl (Zhr (S.rdRow (D := fInt .i64) (i := 0) rfl) rfl rfl (by omega) (by omega)) ?_
 rintro _ w2 ⟨rfl, Ah, ch, rfl, hcut⟩
 have hcr := fun (w' : World) (R : Rd (fInt .i64).ty w' vt (Z36 t s ws)) => R.cut (lo := 0) (hi := L.toNat) (by omega) (by omega)
 rw [← hcut, List.drop_zero] at hcr
 have htk : ((Z36 t s ws).take L.toNat).length = L.toNat := by rw [List.length_take]; omega
 repeat' (first | refine Z08 ?_ | refine Z01 ?_ | refine Z0f ?_ | refine Z06 rfl ?_ | refine Z00 rfl (Z0e rfl) ?_)
 refine Z1l (fun m σ w1 => ∃ (i : Int), Has σ [(9, vo), (79, .slice Ah ((Z36 t s ws).take L.toNat).length ch), (80, .int .i64 ((Z36 t s ws).take L.toNat).length), (81, .int .i64 i)] ∧ St w0 w1 [Z16 (fInt .i64) 3 vt (Z36 t s ws), Z16 (fInt .i64) 3 vo (shP t s ws i.toNat)] ∧ 0 ≤ i ∧ i ≤ L ∧ m = L.toNat - i.toNat) L.toNat ⟨0, ⟨rfl, rfl, rfl, rfl, trivial⟩, S.keep [true, false, false, false, true], by omega, by omega, by omega⟩ ?_
 clear S hs
 rintro m σ w1 ⟨i, hs, S, hi0, hi1, rfl⟩
 refine Z1o hs ?_
 by_cases hi : i < L
 ·have hx : nth ((Z36 t s ws).take L.toNat) i = nth (Z36 t s ws) i := by
   unfold nth; rw [List.getD_eq_getElem?_getD, List.getD_eq_getElem?_getD, List.getElem?_take_of_lt (by omega)]
  have hxr := Z6v.1 (Z2e (l := Z36 t s ws) hi0 (by omega))
  have hxb := @Zjs t s ws i.toNat _ hxr.1 hxr.2
  have hxq := Zd8 (k := (nth (Z36 t s ws) i).toNat) hok ht hse hspos (by omega)
  rw [show (((nth (Z36 t s ws) i).toNat : Nat) : Int) = nth (Z36 t s ws) i by omega] at hxq
  have hsl := @Zfm t s ws i.toNat
  have hstep := @Zgu t s ws i.toNat (nth (Z36 t s ws) i) (by omega) (by rw [show ((i.toNat : Nat) : Int) = i by omega])
  rw [← hx] at hxr hxb hxq hstep
  repeat' (first | refine Z0a ?_ | refine Z02 ?_ | refine Z08 ?_ | refine Z01 ?_ | refine Z0k ?_ | refine Z0f ?_ | refine Z06 rfl ?_ | refine Z04 rfl ?_ | ((refine Z00 rfl (Z12 rfl rfl ?_ ?_) ?_; (first | omega | simp <;> omega); (first | omega | simp <;> omega))) | refine Z00 rfl (Z0z rfl rfl) ?_ | (first | (refine Z00 rfl (Z07 (hcr _ (S.rdRow (D := fInt .i64) (i := 0) rfl)) rfl rfl ?_ ?_) ?_; (first | omega | simp <;> omega); (first | omega | simp <;> omega)) | (refine Z00 rfl (Z07 (S.rdRow (D := (fInt .i64)) (i := 1) rfl) rfl rfl ?_ ?_) ?_; (first | omega | simp <;> omega); (first | omega | simp <;> omega))) | (first | (refine Z00 rfl (Z0i (hcr _ (S.rdRow (D := fInt .i64) (i := 0) rfl)) rfl ?_ ?_ rfl) ?_; (first | omega | simp <;> omega); (first | omega | simp <;> omega)) | (refine Z00 rfl (Z0i (S.rdRow (D := (fInt .i64)) (i := 1) rfl) rfl ?_ ?_ rfl) ?_; (first | omega | simp <;> omega); (first | omega | simp <;> omega))) | (refine Z0g rfl (fun h => ?_) (fun h => ?_) <;> (fail_if_success first | have := ntT h | have := ntF h) <;> (try simp only [tdyB] at h) <;> (try (exfalso; omega))))
  refine Z05 rfl (Z29 (i := 1) (D := fInt .i64) S rfl rfl rfl rfl (fun c hc => by cases List.mem_singleton.1 hc; rfl) (by omega) (by omega)) ?_
  intro w S'
  have S2 : St w0 w [Z16 (fInt .i64) 3 vt (Z36 t s ws), Z16 (fInt .i64) 3 vo ((shP t s ws i.toNat).set (nth ((Z36 t s ws).take L.toNat) i).toNat (nth (shP t s ws i.toNat) (nth ((Z36 t s ws).take L.toNat) i) + 1))] := S'
  rw [hstep] at S2
  clear S S'
  have S := S2
  clear S2
  repeat' (first | refine Z02 ?_ | refine Z08 ?_ | refine Z01 ?_ | refine Z0h ?_ | refine Z06 rfl ?_ | ((refine Z00 rfl (Z12 rfl rfl ?_ ?_) ?_; (first | omega | simp <;> omega); (first | omega | simp <;> omega))))
  refine ⟨⟨_, ?_, i + 1, ⟨rfl, rfl, rfl, rfl, trivial⟩, by rw [show (i + 1).toNat = i.toNat + 1 by omega]; exact S, by omega, by omega, rfl⟩⟩
  omega
 have hiL : i.toNat = L.toNat := by omega
 rw [hiL, ← hL] at S
 repeat' (first | refine Z0a ?_ | refine Z02 ?_ | refine Z08 ?_ | refine Z01 ?_ | refine Z0s ?_ | refine Z15 ?_ | refine Z0r ?_ | refine Z1b ?_ | refine Z06 rfl ?_ | refine Z04 rfl ?_ | refine Z00 rfl (Z0z rfl rfl) ?_ | (refine Z0g rfl (fun h => ?_) (fun h => ?_) <;> (fail_if_success first | have := ntT h | have := ntF h) <;> (try simp only [tdyB] at h) <;> (try (exfalso; omega))))
 exact end2 rfl rfl rfl ⟨_, rfl, S.below, _, rfl, S.row (i := 1) rfl⟩

def Z94 (l : List Int) : Nat → Int
 | 0 => nth l 0
 | n + 1 => max (Z94 l n) (nth l (n : Int))
theorem Zk3 (l : List Int) : Z94 l 1 = nth l 0 := Int.max_self _
theorem Zgz {l : List Int} : ∀ {n k : Nat}, k < n → nth l (k : Int) ≤ Z94 l n
 | 0, k, h => by omega
 | n + 1, k, h => by
  rw [Z94]
  by_cases e : k = n
  ·subst e; omega
  ·have := Zgz (l := l) (n := n) (k := k) (by omega); omega
theorem Zi8 {l : List Int} {n : Nat} (h0 : 0 < n) (hp : ∀ k, k < n → 0 ≤ nth l (k : Int)) : Z94 l n = 0 ↔ sumN (fun k => nth l (k : Int)) n = 0 := by
 constructor
 ·intro h
  have e : sumN (fun k => nth l (k : Int)) n = sumN (fun _ => 0) n := Z7b fun k hk => by
   have h1 := @Zgz l n k hk
   have h2 := hp k hk
   show nth l (k : Int) = 0
   omega
  rw [e, Z66]; omega
 ·intro h
  have hz := Zed (f := fun k => nth l (k : Int)) hp h
  have key : ∀ m, m ≤ n → Z94 l m = 0 := by
   intro m
   induction m with
   | zero => intro _; exact hz 0 h0
   | succ m ih =>
    intro hm
    rw [Z94, ih (by omega)]
    have e : nth l (m : Int) = 0 := hz m (by omega)
    rw [e]; rfl
  exact key n (Nat.le_refl _)
theorem Zh0 {v : Value} {l : List Int} {w : World} (hr : Rd (fInt .i64).ty w v l) (hl : l.length ≤ 1000000000) (h0 : 0 < l.length) : CallsV Tryd.prog 65 #[v] w (.int .i64 (Z94 l l.length)) := by
 have S := St.start w
 obtain ⟨A, c, rfl⟩ := hr.len
 refine CallsV.mk ?_
 refine Z0l Tryd.func65 rfl (by intro _ h; first | exact nomatch h.1 | (obtain ⟨_, h, _⟩ := h; exact nomatch h)) Tryd.ntmps65 rfl ?_
 repeat' (first | refine Z0a ?_ | refine Z02 ?_ | refine Z08 ?_ | refine Z01 ?_ | refine Z0k ?_ | refine Z0f ?_ | refine Z06 rfl ?_ | refine Z04 rfl ?_ | refine Z00 rfl (Z0z rfl rfl) ?_ | refine Z00 rfl (Z0e rfl) ?_ | ((refine Z00 rfl (Z07 (hr.mono S.below) rfl rfl ?_ ?_) ?_; (first | omega | simp <;> omega); (first | omega | simp <;> omega))) | ((refine Z00 rfl (Z0i (hr.mono S.below) rfl ?_ ?_ rfl) ?_; (first | omega | simp <;> omega); (first | omega | simp <;> omega))) | (refine Z0g rfl (fun h => ?_) (fun h => ?_) <;> (fail_if_success first | have := ntT h | have := ntF h) <;> (try simp only [tdyB] at h) <;> (try (exfalso; omega))))
 refine Z1l (fun m σ w1 => ∃ i : Int, Has σ [(0, .slice A l.length c), (3, .int .i64 (Z94 l i.toNat)), (4, .int .i64 i)] ∧ St w w1 [] ∧ 1 ≤ i ∧ i ≤ l.length ∧ m = l.length - i.toNat) (l.length - 1) ⟨1, ⟨rfl, by show Value.int .i64 (nth l 0) = Value.int .i64 (Z94 l 1); rw [Zk3], rfl, trivial⟩, S, by omega, by omega, by omega⟩ ?_
 clear S
 rintro m σ w1 ⟨i, hs, S, hi1, hi2, rfl⟩
 refine Z1o hs ?_
 by_cases hi : i < l.length
 ·repeat' (first | refine Z0a ?_ | refine Z02 ?_ | refine Z08 ?_ | refine Z01 ?_ | refine Z0h ?_ | refine Z0k ?_ | refine Z0f ?_ | refine Z06 rfl ?_ | refine Z04 rfl ?_ | ((refine Z00 rfl (Z12 rfl rfl ?_ ?_) ?_; (first | omega | simp <;> omega); (first | omega | simp <;> omega))) | refine Z00 rfl (Z0z rfl rfl) ?_ | refine Z00 rfl (Z6k rfl rfl) ?_ | refine Z00 rfl (Z0e rfl) ?_ | ((refine Z00 rfl (Z07 (hr.mono S.below) rfl rfl ?_ ?_) ?_; (first | omega | simp <;> omega); (first | omega | simp <;> omega))) | ((refine Z00 rfl (Z0i (hr.mono S.below) rfl ?_ ?_ rfl) ?_; (first | omega | simp <;> omega); (first | omega | simp <;> omega))) | (refine Z0g rfl (fun h => ?_) (fun h => ?_) <;> (fail_if_success first | have := ntT h | have := ntF h) <;> (try simp only [tdyB] at h) <;> (try (exfalso; omega))))
  refine ⟨⟨_, ?_, i + 1, ⟨rfl, ?_, rfl, trivial⟩, S, by omega, by omega, rfl⟩⟩
  ·omega
  ·rw [show (i + 1).toNat = i.toNat + 1 by omega, Z94, show ((i.toNat : Nat) : Int) = i by omega]
   rfl
 ·have e : i.toNat = l.length := by omega
  repeat' (first | refine Z0a ?_ | refine Z02 ?_ | refine Z08 ?_ | refine Z01 ?_ | refine Z0s ?_ | refine Z15 ?_ | refine Z0r ?_ | refine Z1b ?_ | refine Z06 rfl ?_ | refine Z04 rfl ?_ | refine Z00 rfl (Z0z rfl rfl) ?_ | refine Z00 rfl (Z0e rfl) ?_ | (refine Z0g rfl (fun h => ?_) (fun h => ?_) <;> (fail_if_success first | have := ntT h | have := ntF h) <;> (try simp only [tdyB] at h) <;> (try (exfalso; omega))))
  refine end1 rfl rfl ⟨?_, S.below⟩
  rw [e]; rfl

def hitV (item : Int) (v : GVerdict) : Bool := decide (v.Kind = 1 ∧ v.Item = item)
def cntV (vs : List GVerdict) (item : Int) : Int := (vs.countP (hitV item) : Nat)
def Zef (l : List Int) (i : Int) : Int := if i = 0 then -1 else nth l (i - 1)
def okIt (l : List Int) (i : Int) : Bool := decide (Zef l i < nth l i ∧ nth l i < 200)
def Zeg (l : List Int) : Bool := (List.range l.length).all fun (i : Nat) => okIt l (i : Int)
def okRo (t : Int) (l : List Int) (vs : List GVerdict) : Bool := inR t 0 1000000000000 && (inR l.length 1 16 && (Z3m vs && Zeg l))
def wts (l : List Int) (vs : List GVerdict) : List Int := tab (fun k => cntV vs (nth l (k : Int))) l.length
def royI (t : Int) (l : List Int) (vs : List GVerdict) : List Int × Int := if okRo t l vs then (if sumW (wts l vs) = 0 then (wts l vs, 0) else shI t (wts l vs)) else ([], 390)
theorem Zeh {vs : List GVerdict} {item : Int} {j : Int} (h0 : 0 ≤ j) (hj : j < vs.length) : cntV (vs.take (j + 1).toNat) item = cntV (vs.take j.toNat) item + (if hitV item (nth vs j) = true then 1 else 0) := by
 unfold cntV
 rw [show (j + 1).toNat = j.toNat + 1 by omega, List.take_add_one, Z1u h0 hj, Option.toList_some, List.countP_append, List.countP_singleton]
 split <;> simp
theorem Zd9 {vs : List GVerdict} {item : Int} : 0 ≤ cntV vs item ∧ cntV vs item ≤ vs.length := by
 unfold cntV; have := List.countP_le_length (p := hitV item) (l := vs); omega
theorem Z68 {vs : List GVerdict} (h : Z3m vs = true) : vs.length ≤ 200 := by
 unfold Z3m at h; rw [Bool.and_eq_true] at h; exact of_decide_eq_true h.1
theorem Zh1 {l : List Int} (h : ∀ j : Int, 0 ≤ j → j < l.length → okIt l j = true) : Zeg l = true := by
 unfold Zeg
 rw [List.all_eq_true]
 intro k hk
 exact h k (by omega) (by have := List.mem_range.1 hk; omega)
theorem okIts_at {l : List Int} (h : Zeg l = true) {j : Int} (h0 : 0 ≤ j) (hj : j < l.length) : okIt l j = true := by
 unfold Zeg at h
 rw [List.all_eq_true] at h
 have := h j.toNat (List.mem_range.2 (by omega))
 rwa [show ((j.toNat : Nat) : Int) = j by omega] at this
theorem Zh2 {l : List Int} {j : Int} (h0 : 0 ≤ j) (hj : j < l.length) (h : okIt l j = false) : Zeg l = false := by
 cases e : Zeg l with
 | false => rfl
 | true => rw [okIts_at e h0 hj] at h; cases h
theorem Z6x {t : Int} {l : List Int} {vs : List GVerdict} (h : okRo t l vs = false) : royI t l vs = ([], 390) := by unfold royI; rw [h]; rfl
theorem okRo_t {t : Int} {l : List Int} {vs : List GVerdict} (h : inR t 0 1000000000000 = false) : okRo t l vs = false := by unfold okRo; rw [h]; rfl
theorem okRo_l {t : Int} {l : List Int} {vs : List GVerdict} (h : inR l.length 1 16 = false) : okRo t l vs = false := by unfold okRo; rw [h]; simp
theorem okRo_v {t : Int} {l : List Int} {vs : List GVerdict} (h : Z3m vs = false) : okRo t l vs = false := by unfold okRo; rw [h]; simp
theorem okRo_i {t : Int} {l : List Int} {vs : List GVerdict} (h : Zeg l = false) : okRo t l vs = false := by unfold okRo; rw [h]; simp
theorem Z69 {v : Value} {l : List GVerdict} {b : Bool} {w : World} (h : Z3m l = b) (hr : Rd Z1j.ty w v l) (hl : l.length ≤ 1000000000) : CallsV Tryd.prog 25 #[v] w (.bool b) := by rw [← h]; exact Zb8 hr hl
theorem Zda {l : List Int} {vs : List GVerdict} : (wts l vs).length = l.length := by unfold wts; rw [Z2s]
theorem Zk4 {l : List Int} {vs : List GVerdict} {i : Int} (h0 : 0 ≤ i) (hi : i < l.length) : nth (wts l vs) i = cntV vs (nth l i) := by
 unfold wts; rw [Z3d (i := i.toNat) (by omega) (by omega), show ((i.toNat : Nat) : Int) = i by omega]
def wF (l : List Int) (vs : List GVerdict) (i j : Int) (k : Nat) : Int := if (k : Int) < i then cntV vs (nth l (k : Int)) else if (k : Int) = i then cntV (vs.take j.toNat) (nth l (k : Int)) else 0
theorem Zk5 {l : List Int} {vs : List GVerdict} {i : Int} : wF l vs i vs.length = wF l vs (i + 1) 0 := by
 funext k
 unfold wF
 rw [Int.toNat_natCast, List.take_length]
 by_cases h1 : (k : Int) < i
 ·rw [if_pos h1, if_pos (by omega)]
 ·rw [if_neg h1]
  by_cases h2 : (k : Int) = i
  ·rw [if_pos h2, if_pos (by omega)]
  ·rw [if_neg h2, if_neg (by omega)]
   by_cases h3 : (k : Int) = i + 1
   ·rw [if_pos h3]; simp [cntV]
   ·rw [if_neg h3]
theorem wF_end {l : List Int} {vs : List GVerdict} : tab (wF l vs l.length 0) l.length = wts l vs := by
 unfold wts
 refine Z7x fun k hk => ?_
 unfold wF
 rw [if_pos (by omega)]
theorem Zh3 {l : List Int} {vs : List GVerdict} : List.replicate l.length 0 = tab (wF l vs 0 0) l.length := by
 refine Za8 fun k hk => ?_
 unfold wF
 rw [if_neg (by omega)]
 split <;> simp [cntV]
theorem wF_at {l : List Int} {vs : List GVerdict} {i j : Int} (h0 : 0 ≤ i) (hi : i < l.length) : nth (tab (wF l vs i j) l.length) i = cntV (vs.take j.toNat) (nth l i) := by
 rw [Z3d (i := i.toNat) (by omega) (by omega)]
 unfold wF
 rw [show ((i.toNat : Nat) : Int) = i by omega, if_neg (by omega), if_pos rfl]
theorem wF_put {l : List Int} {vs : List GVerdict} {i j x : Int} (h0 : 0 ≤ i) (hi : i < l.length) (hx : x = cntV (vs.take (j + 1).toNat) (nth l i)) : (tab (wF l vs i j) l.length).set i.toNat x = tab (wF l vs i (j + 1)) l.length := by
 refine Za9 (i := i.toNat) (by omega) (by omega) fun k hk => ?_
 unfold wF
 by_cases e : k = i.toNat
 ·rw [if_pos e, if_neg (by omega), if_pos (by omega), hx, show (k : Int) = i by omega]
 ·rw [if_neg e]
  by_cases h1 : (k : Int) < i
  ·rw [if_pos h1, if_pos h1]
  ·rw [if_neg h1, if_neg h1, if_neg (by omega), if_neg (by omega)]
theorem Zk6 {l : List Int} {vs : List GVerdict} {i j : Int} (h : cntV (vs.take (j + 1).toNat) (nth l i) = cntV (vs.take j.toNat) (nth l i)) : wF l vs i (j + 1) = wF l vs i j := by
 funext k
 unfold wF
 by_cases h1 : (k : Int) < i
 ·rw [if_pos h1, if_pos h1]
 ·rw [if_neg h1, if_neg h1]
  by_cases h2 : (k : Int) = i
  ·rw [if_pos h2, if_pos h2, h2, h]
  ·rw [if_neg h2, if_neg h2]
set_option maxHeartbeats 1000000 in
theorem Zk7 {t : Int} {l : List Int} {vs : List GVerdict} {v1 v2 : Value} {w0 : World} (hr : Rd (fInt .i64).ty w0 v1 l) (hr2 : Rd Z1j.ty w0 v2 vs) (hl : l.length ≤ 1000000000) (hl2 : vs.length ≤ 1000000000) :
  CallsR Tryd.prog 29 #[.int .i64 t, v1, v2] w0 (RowE w0 (royI t l vs)) := by
 have S := St.start w0
 obtain ⟨A, c, rfl⟩ := hr.len
 obtain ⟨A2, c2, rfl⟩ := hr2.len
 refine CallsR.mk ?_
 refine Z0l Tryd.func29 rfl (by intro _ h; first | exact nomatch h.1 | (obtain ⟨_, h, _⟩ := h; exact nomatch h)) Tryd.ntmps29 rfl ?_
 cases ht : inR t 0 1000000000000 with
 | false =>
  have e := Z6x (l := l) (vs := vs) (okRo_t ht)
  repeat' (first | refine Z0a ?_ | refine Z02 ?_ | refine Z08 ?_ | refine Z01 ?_ | refine Z0x ?_ | refine Z0r ?_ | refine Z0v rfl ?_ | (refine Z1c ?_; refine Z1p rfl ?_) | refine Z06 rfl ?_ | refine Z04 rfl ?_ | refine Z0u rfl rfl ?_ | refine Z00 rfl (Z1w rfl) ?_ | ((refine Z0j rfl (Z1t rfl rfl rfl rfl) (Z81 ht) ?_; intro w hb; replace S := S.grow hb; clear hb)))
  exact end2 rfl rfl rfl ⟨_, rfl, S.below, _, by rw [e]; rfl, by rw [e]; exact Z2u.nil _ _ _ _⟩
 | true =>
 cases hn : inR l.length 1 16 with
 | false =>
  have e := Z6x (t := t) (vs := vs) (okRo_l hn)
  repeat' (first | refine Z0a ?_ | refine Z02 ?_ | refine Z08 ?_ | refine Z01 ?_ | refine Z0x ?_ | refine Z0r ?_ | refine Z0v rfl ?_ | (refine Z1c ?_; refine Z1p rfl ?_) | refine Z06 rfl ?_ | refine Z04 rfl ?_ | (first | refine Z0u rfl rfl ?_ | refine Z0t rfl rfl ?_) | refine Z00 rfl (Z1w rfl) ?_ | refine Z00 rfl (Z0e rfl) ?_ | (first | (refine Z0j rfl (Z1t rfl rfl rfl rfl) (Z81 ht) ?_; intro w hb; replace S := S.grow hb; clear hb) | (refine Z0j rfl (Z1t rfl rfl rfl rfl) (Z81 hn) ?_; intro w hb; replace S := S.grow hb; clear hb)))
  exact end2 rfl rfl rfl ⟨_, rfl, S.below, _, by rw [e]; rfl, by rw [e]; exact Z2u.nil _ _ _ _⟩
 | true =>
 cases hv : Z3m vs with
 | false =>
  have e := Z6x (t := t) (l := l) (okRo_v hv)
  repeat' (first | refine Z0a ?_ | refine Z02 ?_ | refine Z08 ?_ | refine Z01 ?_ | refine Z0x ?_ | refine Z0r ?_ | refine Z0v rfl ?_ | refine Z06 rfl ?_ | refine Z04 rfl ?_ | refine Z0t rfl rfl ?_ | refine Z00 rfl (Z1w rfl) ?_ | refine Z00 rfl (Z0e rfl) ?_ | (first | (refine Z0j rfl (Z1t rfl rfl rfl rfl) (Z81 ht) ?_; intro w hb; replace S := S.grow hb; clear hb) | (refine Z0j rfl (Z1t rfl rfl rfl rfl) (Z81 hn) ?_; intro w hb; replace S := S.grow hb; clear hb) | (refine Z0j rfl (Z1h rfl rfl) (Z69 hv (hr2.mono S.below) hl2) ?_; intro w hb; replace S := S.grow hb; clear hb)))
  exact end2 rfl rfl rfl ⟨_, rfl, S.below, _, by rw [e]; rfl, by rw [e]; exact Z2u.nil _ _ _ _⟩
 | true =>
 have hvl := Z68 hv
 have hnn : (1 : Int) ≤ l.length ∧ (l.length : Int) ≤ 16 := of_decide_eq_true hn
 repeat' (first | refine Z0a ?_ | refine Z02 ?_ | refine Z08 ?_ | refine Z01 ?_ | refine Z0k ?_ | refine Z18 rfl ?_ | refine Z06 rfl ?_ | refine Z04 rfl ?_ | refine Z0t rfl rfl ?_ | refine Z00 rfl (Z1w rfl) ?_ | refine Z00 rfl (Z0e rfl) ?_ | (first | (refine Z0j rfl (Z1t rfl rfl rfl rfl) (Z81 ht) ?_; intro w hb; replace S := S.grow hb; clear hb) | (refine Z0j rfl (Z1t rfl rfl rfl rfl) (Z81 hn) ?_; intro w hb; replace S := S.grow hb; clear hb) | (refine Z0j rfl (Z1h rfl rfl) (Z69 hv (hr2.mono S.below) hl2) ?_; intro w hb; replace S := S.grow hb; clear hb)))
 refine Z0n rfl (Z5o (D := fInt .i64) (m := l.length) 0 S rfl rfl rfl (by decide) (by omega) (by omega)) ?_
 rintro vo w ⟨b, hvo, -, S'⟩; replace S := S'; clear S'
 rw [Zh3 (vs := vs)] at S
 repeat' (first | refine Z0a ?_ | refine Z02 ?_ | refine Z08 ?_ | refine Z01 ?_ | refine Z0f ?_ | refine Z06 rfl ?_ | refine Z04 rfl ?_ | refine Z00 rfl (Z0e rfl) ?_)
 refine Z1l (fun m σ w1 => ∃ (i : Int), Has σ [(0, .int .i64 t), (2, .slice A2 vs.length c2), (8, .int .i64 (Zef l i)), (9, vo), (31, .slice A l.length c), (32, .int .i64 l.length), (33, .int .i64 i)] ∧ St w0 w1 [Z16 (fInt .i64) 3 vo (tab (wF l vs i 0) l.length)] ∧ 0 ≤ i ∧ i ≤ l.length ∧ (∀ j : Int, 0 ≤ j → j < i → okIt l j = true) ∧ m = l.length - i.toNat) l.length ⟨0, ⟨rfl, rfl, rfl, rfl, rfl, rfl, rfl, trivial⟩, S, by omega, by omega, fun j p q => by omega, by omega⟩ ?_
 clear S
 rintro m σ w1 ⟨i, hs, S, hi0, hi1, hall, rfl⟩
 refine Z1o hs ?_
 by_cases hi : i < l.length
 ·cases hb : okIt l i with
  | false =>
   have e := Z6x (t := t) (vs := vs) (okRo_i (Zh2 hi0 hi hb))
   unfold okIt at hb
   have hb := of_decide_eq_false hb
   repeat' (first | refine Z0a ?_ | refine Z02 ?_ | refine Z08 ?_ | refine Z01 ?_ | refine Z0x ?_ | refine Z27 ?_ | refine Z0r ?_ | refine Z0k ?_ | refine Z0f ?_ | refine Z0v rfl ?_ | (refine Z1c ?_; refine Z1p rfl ?_) | refine Z06 rfl ?_ | refine Z04 rfl ?_ | (first | refine Z0u rfl rfl ?_ | refine Z0t rfl rfl ?_) | refine Z00 rfl (Z0z rfl rfl) ?_ | refine Z00 rfl (Z4m rfl rfl) ?_ | refine Z00 rfl (Z2x rfl rfl) ?_ | ((refine Z00 rfl (Z07 (hr.mono S.below) rfl rfl ?_ ?_) ?_; (first | omega | simp <;> omega); (first | omega | simp <;> omega))) | ((refine Z00 rfl (Z0i (hr.mono S.below) rfl ?_ ?_ rfl) ?_; (first | omega | simp <;> omega); (first | omega | simp <;> omega))) | (refine Z13 rfl rfl (fun h => ?_) (fun h => ?_) <;> (fail_if_success first | have := ntT h | have := ntF h) <;> (try simp only [tdyB] at h) <;> (try (exfalso; omega)) <;> (try (exfalso; omega; done))) | (refine Z0g rfl (fun h => ?_) (fun h => ?_) <;> (fail_if_success first | have := ntT h | have := ntF h) <;> (try simp only [tdyB] at h) <;> (try (exfalso; omega)) <;> (try (exfalso; omega; done))))
   all_goals exact end2 rfl rfl rfl ⟨_, rfl, S.below, _, by rw [e]; rfl, by rw [e]; exact Z2u.nil _ _ _ _⟩
  | true =>
   have hb' := hb
   unfold okIt at hb'
   have hb' := of_decide_eq_true hb'
   repeat' (first | refine Z0a ?_ | refine Z02 ?_ | refine Z08 ?_ | refine Z01 ?_ | refine Z0k ?_ | refine Z0f ?_ | refine Z06 rfl ?_ | refine Z04 rfl ?_ | refine Z0t rfl rfl ?_ | refine Z00 rfl (Z0z rfl rfl) ?_ | refine Z00 rfl (Z4m rfl rfl) ?_ | refine Z00 rfl (Z2x rfl rfl) ?_ | refine Z00 rfl (Z0e rfl) ?_ | ((refine Z00 rfl (Z07 (hr.mono S.below) rfl rfl ?_ ?_) ?_; (first | omega | simp <;> omega); (first | omega | simp <;> omega))) | ((refine Z00 rfl (Z0i (hr.mono S.below) rfl ?_ ?_ rfl) ?_; (first | omega | simp <;> omega); (first | omega | simp <;> omega))) | (refine Z13 rfl rfl (fun h => ?_) (fun h => ?_) <;> (fail_if_success first | have := ntT h | have := ntF h) <;> (try simp only [tdyB] at h) <;> (try (exfalso; omega)) <;> (try (exfalso; omega; done))) | (refine Z0g rfl (fun h => ?_) (fun h => ?_) <;> (fail_if_success first | have := ntT h | have := ntF h) <;> (try simp only [tdyB] at h) <;> (try (exfalso; omega)) <;> (try (exfalso; omega; done))))
   have hvle := fun j : Int => @Zd9 (vs.take j.toNat) (nth l i)
   refine Z1l (fun m σ w1 => ∃ (j : Int), Has σ [(0, .int .i64 t), (2, .slice A2 vs.length c2), (8, .int .i64 (nth l i)), (9, vo), (10, .int .i64 i), (11, .int .i64 (nth l i)), (31, .slice A l.length c), (32, .int .i64 l.length), (33, .int .i64 i), (46, .slice A2 vs.length c2), (47, .int .i64 vs.length), (48, .int .i64 j)] ∧ St w0 w1 [Z16 (fInt .i64) 3 vo (tab (wF l vs i j) l.length)] ∧ 0 ≤ j ∧ j ≤ vs.length ∧ m = vs.length - j.toNat) vs.length ⟨0, ⟨rfl, rfl, rfl, rfl, rfl, rfl, rfl, rfl, rfl, rfl, rfl, rfl, trivial⟩, S, by omega, by omega, by omega⟩ ?_
   clear S hs
   rintro m σ w1 ⟨j, hs, S, hj0, hj1, rfl⟩
   refine Z1o hs ?_
   by_cases hj : j < vs.length
   ·have hst := @Zeh vs (nth l i) j hj0 hj
    have hc := hvle j
    rw [List.length_take] at hc
    have hat := @wF_at l vs i j hi0 hi
    have htl := @Z2s (wF l vs i j) l.length
    cases hh : hitV (nth l i) (nth vs j) with
    | true =>
     rw [hh, if_pos rfl] at hst
     have hh2 : (nth vs j).Kind = 1 ∧ (nth vs j).Item = nth l i := of_decide_eq_true hh
     repeat' (first | refine Z0a ?_ | refine Z02 ?_ | refine Z08 ?_ | refine Z01 ?_ | refine Z0k ?_ | refine Z0f ?_ | refine Z06 rfl ?_ | refine Z0u rfl rfl ?_ | ((refine Z00 rfl (Z12 rfl rfl ?_ ?_) ?_; (first | omega | simp <;> omega); (first | omega | simp <;> omega))) | refine Z00 rfl (Z2k rfl rfl) ?_ | refine Z00 rfl (Z0z rfl rfl) ?_ | refine Z00 rfl (Z09 rfl) ?_ | (first | (refine Z00 rfl (Z07 (hr2.mono S.below) rfl rfl ?_ ?_) ?_; (first | omega | simp <;> omega); (first | omega | simp <;> omega)) | (refine Z00 rfl (Z07 (S.rdRow (D := (fInt .i64)) (i := 0) rfl) rfl rfl ?_ ?_) ?_; (first | omega | simp <;> omega); (first | omega | simp <;> omega))) | (first | (refine Z00 rfl (Z19 (hr2.mono S.below) rfl ?_ ?_) ?_; (first | omega | simp <;> omega); (first | omega | simp <;> omega)) | (refine Z00 rfl (Z0i (S.rdRow (D := (fInt .i64)) (i := 0) rfl) rfl ?_ ?_ rfl) ?_; (first | omega | simp <;> omega); (first | omega | simp <;> omega)) | refine Z00 rfl (Z0b (i := 1) S rfl rfl rfl) ?_) | (refine Z0n rfl (Z1i S) ?_; rintro _ w ⟨b, rfl, -, S'⟩; replace S := S'; clear S') | (first | (refine Z05 rfl (Z03 (i := 0) S rfl rfl rfl rfl (dqq rfl) (dqq rfl)) ?_; clear S; intro w S) | (refine Z05 rfl (Z03 (i := 1) S rfl rfl rfl rfl (dqq rfl) (dqq rfl)) ?_; clear S; intro w S)) | (refine Z13 rfl rfl (fun h => ?_) (fun h => ?_) <;> (fail_if_success first | have := ntT h | have := ntF h) <;> (try simp only [tdyB] at h) <;> (try (exfalso; omega)) <;> (try (exfalso; omega; done))) | (refine Z0g rfl (fun h => ?_) (fun h => ?_) <;> (fail_if_success first | have := ntT h | have := ntF h) <;> (try simp only [tdyB] at h) <;> (try (exfalso; omega)) <;> (try (exfalso; omega; done))))
     refine Z05 rfl (Z29 (i := 0) (D := fInt .i64) S rfl rfl rfl rfl (fun c hc => by cases List.mem_singleton.1 hc; rfl) (by omega) (by omega)) ?_
     clear S; intro w S
     repeat' (first | refine Z02 ?_ | refine Z08 ?_ | refine Z01 ?_ | refine Z0h ?_ | refine Z06 rfl ?_ | ((refine Z00 rfl (Z12 rfl rfl ?_ ?_) ?_; (first | omega | simp <;> omega); (first | omega | simp <;> omega))))
     refine ⟨⟨_, ?_, j + 1, ⟨rfl, rfl, rfl, rfl, rfl, rfl, rfl, rfl, rfl, rfl, rfl, rfl, trivial⟩, ?_, by omega, by omega, rfl⟩⟩
     ·omega
     ·have S2 := S.keep [true, false]
      rw [← wF_put (x := nth (tab (wF l vs i j) l.length) i + 1) hi0 hi (by rw [hat, hst])]
      exact S2
    | false =>
     rw [hh, if_neg (by simp), Int.add_zero] at hst
     have hh2 : ¬ ((nth vs j).Kind = 1 ∧ (nth vs j).Item = nth l i) := of_decide_eq_false hh
     repeat' (first | refine Z0a ?_ | refine Z02 ?_ | refine Z08 ?_ | refine Z01 ?_ | refine Z0h ?_ | refine Z0k ?_ | refine Z0f ?_ | refine Z18 rfl ?_ | (refine Z1c ?_; refine Z1p rfl ?_) | refine Z06 rfl ?_ | (first | refine Z0u rfl rfl ?_ | refine Z0t rfl rfl ?_) | ((refine Z00 rfl (Z12 rfl rfl ?_ ?_) ?_; (first | omega | simp <;> omega); (first | omega | simp <;> omega))) | refine Z00 rfl (Z2k rfl rfl) ?_ | refine Z00 rfl (Z0z rfl rfl) ?_ | refine Z00 rfl (Z09 rfl) ?_ | ((refine Z00 rfl (Z07 (hr2.mono S.below) rfl rfl ?_ ?_) ?_; (first | omega | simp <;> omega); (first | omega | simp <;> omega))) | (first | (refine Z00 rfl (Z19 (hr2.mono S.below) rfl ?_ ?_) ?_; (first | omega | simp <;> omega); (first | omega | simp <;> omega)) | refine Z00 rfl (Z0b (i := 1) S rfl rfl rfl) ?_) | (refine Z0n rfl (Z1i S) ?_; rintro _ w ⟨b, rfl, -, S'⟩; replace S := S'; clear S') | (first | (refine Z05 rfl (Z03 (i := 0) S rfl rfl rfl rfl (dqq rfl) (dqq rfl)) ?_; clear S; intro w S) | (refine Z05 rfl (Z03 (i := 1) S rfl rfl rfl rfl (dqq rfl) (dqq rfl)) ?_; clear S; intro w S)) | (refine Z13 rfl rfl (fun h => ?_) (fun h => ?_) <;> (fail_if_success first | have := ntT h | have := ntF h) <;> (try simp only [tdyB] at h) <;> (try (exfalso; omega)) <;> (try (exfalso; omega; done))) | (refine Z0g rfl (fun h => ?_) (fun h => ?_) <;> (fail_if_success first | have := ntT h | have := ntF h) <;> (try simp only [tdyB] at h) <;> (try (exfalso; omega)) <;> (try (exfalso; omega; done))))
     all_goals
      refine ⟨⟨_, ?_, j + 1, ⟨rfl, rfl, rfl, rfl, rfl, rfl, rfl, rfl, rfl, rfl, rfl, rfl, trivial⟩, ?_, by omega, by omega, rfl⟩⟩
      ·omega
      ·rw [Zk6 hst]
       exact S.keep [true, false]
   have hje : j = vs.length := by omega
   subst hje
   rw [Zk5] at S
   repeat' (first | refine Z0a ?_ | refine Z02 ?_ | refine Z08 ?_ | refine Z01 ?_ | refine Z0h ?_ | refine Z0s ?_ | refine Z15 ?_ | refine Z1b ?_ | refine Z06 rfl ?_ | ((refine Z00 rfl (Z12 rfl rfl ?_ ?_) ?_; (first | omega | simp <;> omega); (first | omega | simp <;> omega))) | refine Z00 rfl (Z0z rfl rfl) ?_ | (refine Z0g rfl (fun h => ?_) (fun h => ?_) <;> (fail_if_success first | have := ntT h | have := ntF h) <;> (try simp only [tdyB] at h) <;> (try (exfalso; omega))))
   refine ⟨⟨_, ?_, i + 1, ⟨rfl, rfl, ?_, rfl, rfl, rfl, rfl, trivial⟩, S, by omega, by omega, fun j p q => ?_, rfl⟩⟩
   ·omega
   ·show Value.int .i64 (nth l i) = Value.int .i64 (Zef l (i + 1))
    unfold Zef
    rw [if_neg (by omega), show i + 1 - 1 = i by omega]
   ·by_cases e : j = i
    ·subst e; exact hb
    ·exact hall j p (by omega)
 have hil : i = l.length := by omega
 subst hil
 rw [wF_end] at S
 have hok : okRo t l vs = true := by unfold okRo; rw [ht, hn, hv, Zh1 hall]; rfl
 have hwl := @Zda l vs
 have hwn := fun k (hk : k < l.length) => @Zk4 l vs ((k : Nat) : Int) (by omega) (by omega)
 have hmz := @Zi8 (wts l vs) l.length (by omega) fun k hk => by rw [hwn k hk]; exact Zd9.1
 by_cases hz : sumW (wts l vs) = 0
 ·have e : royI t l vs = (wts l vs, 0) := by unfold royI; rw [hok, if_pos rfl, if_pos hz]
  have hmx : Z94 (wts l vs) (wts l vs).length = 0 := by rw [hwl]; refine hmz.2 ?_; unfold sumW at hz; rw [hwl] at hz; exact hz
  repeat' (first | refine Z0a ?_ | refine Z02 ?_ | refine Z08 ?_ | refine Z01 ?_ | refine Z0s ?_ | refine Z15 ?_ | refine Z0x ?_ | refine Z0r ?_ | refine Z1b ?_ | refine Z06 rfl ?_ | refine Z04 rfl ?_ | refine Z00 rfl (Z2k rfl rfl) ?_ | refine Z00 rfl (Z0z rfl rfl) ?_ | ((refine Z0j rfl (Z1h rfl rfl) (Zh0 (S.rdRow (D := fInt .i64) (i := 0) rfl) (by omega) (by omega)) ?_; intro w hb; replace S := S.grow hb; clear hb)) | (refine Z0g rfl (fun h => ?_) (fun h => ?_) <;> (fail_if_success first | have := ntT h | have := ntF h) <;> (try simp only [tdyB] at h) <;> (try (exfalso; omega)) <;> (try (exfalso; exact absurd hmx (by simpa using h); done))))
  exact end2 rfl rfl rfl ⟨_, rfl, S.below, _, by rw [e]; rfl, by rw [e]; exact S.row (i := 0) rfl⟩
 ·have e : royI t l vs = shI t (wts l vs) := by unfold royI; rw [hok, if_pos rfl, if_neg hz]
  have hmx : ¬ Z94 (wts l vs) (wts l vs).length = 0 := by rw [hwl]; intro h; apply hz; unfold sumW; rw [hwl]; exact hmz.1 h
  rw [e]
  repeat' (first | refine Z0a ?_ | refine Z02 ?_ | refine Z08 ?_ | refine Z01 ?_ | refine Z0s ?_ | refine Z15 ?_ | refine Z0k ?_ | refine Z1b ?_ | refine Z06 rfl ?_ | refine Z00 rfl (Z2k rfl rfl) ?_ | refine Z00 rfl (Z0z rfl rfl) ?_ | ((refine Z0j rfl (Z1h rfl rfl) (Zh0 (S.rdRow (D := fInt .i64) (i := 0) rfl) (by omega) (by omega)) ?_; intro w hb; replace S := S.grow hb; clear hb)) | (refine Z0g rfl (fun h => ?_) (fun h => ?_) <;> (fail_if_success first | have := ntT h | have := ntF h) <;> (try simp only [tdyB] at h) <;> (try (exfalso; omega)) <;> (try (exfalso; exact absurd (by simpa using h) hmx; done))))
  refine Z25 rfl (Z0w rfl rfl rfl) (Z93 (S.rdRow (D := fInt .i64) (i := 0) rfl) (by omega)) ?_
  rintro _ w hb ⟨vr, rfl, hrow⟩
  replace S := S.new hb hrow; clear hb hrow
  repeat' (first | refine Z08 ?_ | refine Z01 ?_ | refine Z0r ?_ | refine Z04 rfl ?_ | refine Z00 rfl (Z0y rfl rfl) ?_)
  exact end2 rfl rfl rfl ⟨_, rfl, S.below, _, rfl, S.row (i := 1) rfl⟩

theorem Zkd {x : GVerdict} {v : Value} {l : List GVerdict} {w : World} (hr : Rd Z1j.ty w v l) (hl : l.length ≤ 1000000000) :
  CallsV Tryd.prog 79 #[v, .agg x.enc.toArray] w (.int .i64 (idxF (fun y => decide (x = y)) l)) := by
 have S := St.start w
 obtain ⟨A, c, rfl⟩ := hr.len
 obtain ⟨w0, rfl⟩ : ∃ x, x = w := ⟨_, rfl⟩
 refine CallsV.mk ?_
 refine Z0l Tryd.func79 rfl (by intro _ h; first | exact nomatch h.1 | (obtain ⟨_, h, _⟩ := h; exact nomatch h)) Tryd.ntmps79 rfl ?_
 repeat' (first | refine Z0a ?_ | refine Z02 ?_ | refine Z08 ?_ | refine Z01 ?_ | refine Z0f ?_ | refine Z06 rfl ?_ | refine Z04 rfl ?_ | refine Z00 rfl (Z0e rfl) ?_ | (refine Z2g ?_; refine Z0n rfl (Z2h S rfl) ?_; rintro _ w ⟨b, rfl, -, S'⟩; replace S := S'; clear S'))
 refine Z1l (fun k σ w1 => ∃ i : Int, Has σ [(0, .slice A l.length c), (3, .pointer (some ⟨b, 0, none⟩)), (7, .int .i64 l.length), (8, .int .i64 i)] ∧ St w0 w1 [.var b 60 x.enc] ∧ 0 ≤ i ∧ i ≤ l.length ∧ k = l.length - i.toNat ∧ ∀ j, j < i.toNat → ∀ y, l[j]? = some y → decide (x = y) = false) l.length ⟨0, ⟨rfl, rfl, rfl, rfl, trivial⟩, S, by omega, by omega, by omega, fun j hj => by omega⟩ ?_
 clear S
 rintro k σ w1 ⟨i, hs, S, hi0, hi1, rfl, hnone⟩
 refine Z1o hs ?_
 by_cases hi : i < l.length
 ·cases hx : decide (x = nth l i) with
  | true =>
   have hx' := of_decide_eq_true hx
   repeat' (first | refine Z0a ?_ | refine Z02 ?_ | refine Z08 ?_ | refine Z01 ?_ | refine Z0x ?_ | refine Z27 ?_ | refine Z0r ?_ | refine Z0k ?_ | refine Z0f ?_ | refine Z1s (by kernel_rfl) (by kernel_rfl) ?_ | (refine Z1q ?_; intro w hb; replace S := S.grow hb; clear hb) | refine Z06 rfl ?_ | refine Z04 rfl ?_ | refine Z00 rfl (Z0z rfl rfl) ?_ | (refine Z1e ?_; refine Z1r rfl ?_) | (refine Z4h ?_; refine Z0c rfl (fun w' hb => eql60 rfl rfl) ?_) | (refine Z0q ?_; (refine Z0c rfl (fun w' hb => Z07 (hr.mono (S.grow hb).below) rfl rfl ?_ ?_) ?_; (first | omega | simp <;> omega); (first | omega | simp <;> omega))) | (refine Z1f ?_; first | (refine Z0c rfl (fun w' hb => Z19 (hr.mono (S.grow hb).below) rfl ?_ ?_) ?_; (first | omega | simp <;> omega); (first | omega | simp <;> omega)) | refine Z0c rfl (fun w' hb => Z0m (i := 0) (S.grow hb) rfl rfl rfl rfl) ?_) | (refine Z0g rfl (fun h => ?_) (fun h => ?_) <;> (fail_if_success first | have := ntT h | have := ntF h) <;> (try simp only [tdyB] at h) <;> (try (exfalso; omega)) <;> (try (exfalso; exact absurd hx' h; done))))
   refine end1 rfl rfl ⟨ri ?_, S.below⟩
   exact (Z8c hnone (Z1u (by omega) (by omega)) hx (by omega)).symm
  | false =>
   have hx' := of_decide_eq_false hx
   repeat' (first | refine Z0a ?_ | refine Z02 ?_ | refine Z08 ?_ | refine Z01 ?_ | refine Z0h ?_ | refine Z0k ?_ | refine Z0f ?_ | refine Z1s (by kernel_rfl) (by kernel_rfl) ?_ | (refine Z1q ?_; intro w hb; replace S := S.grow hb; clear hb) | refine Z06 rfl ?_ | refine Z04 rfl ?_ | ((refine Z00 rfl (Z12 rfl rfl ?_ ?_) ?_; (first | omega | simp <;> omega); (first | omega | simp <;> omega))) | refine Z00 rfl (Z0z rfl rfl) ?_ | (refine Z1e ?_; refine Z1r rfl ?_) | (refine Z4h ?_; refine Z0c rfl (fun w' hb => eql60 rfl rfl) ?_) | (refine Z0q ?_; (refine Z0c rfl (fun w' hb => Z07 (hr.mono (S.grow hb).below) rfl rfl ?_ ?_) ?_; (first | omega | simp <;> omega); (first | omega | simp <;> omega))) | (refine Z1f ?_; first | (refine Z0c rfl (fun w' hb => Z19 (hr.mono (S.grow hb).below) rfl ?_ ?_) ?_; (first | omega | simp <;> omega); (first | omega | simp <;> omega)) | refine Z0c rfl (fun w' hb => Z0m (i := 0) (S.grow hb) rfl rfl rfl rfl) ?_) | (refine Z0g rfl (fun h => ?_) (fun h => ?_) <;> (fail_if_success first | have := ntT h | have := ntF h) <;> (try simp only [tdyB] at h) <;> (try (exfalso; omega)) <;> (try (exfalso; exact absurd h hx'; done))))
   refine ⟨⟨_, ?_, i + 1, ⟨rfl, rfl, rfl, rfl, trivial⟩, S, by omega, by omega, rfl, fun j hj y hy => ?_⟩⟩
   ·omega
   ·by_cases e : j = i.toNat
    ·subst e; rw [Z1u (by omega) (by omega)] at hy; cases hy; exact hx
    ·exact hnone j (by omega) y hy
 ·repeat' (first | refine Z0a ?_ | refine Z02 ?_ | refine Z08 ?_ | refine Z01 ?_ | refine Z0s ?_ | refine Z15 ?_ | refine Z0r ?_ | refine Z1b ?_ | refine Z04 rfl ?_ | refine Z00 rfl (Z0z rfl rfl) ?_ | (refine Z0g rfl (fun h => ?_) (fun h => ?_) <;> (fail_if_success first | have := ntT h | have := ntF h) <;> (try simp only [tdyB] at h) <;> (try (exfalso; omega))))
  refine end1 rfl rfl ⟨ri ?_, S.below⟩
  exact (Z6u fun y hy => by
   obtain ⟨j, hj⟩ := List.getElem?_of_mem hy
   exact hnone j (by have := List.getElem?_eq_some_iff.1 hj; obtain ⟨hlt, _⟩ := this; omega) y hj).symm
theorem Zek {x : GVerdict} {b : Bool} {v : Value} {l : List GVerdict} {w : World} (hb : l.any (fun y => decide (x = y)) = b) (hr : Rd Z1j.ty w v l) (hl : l.length ≤ 1000000000) :
  CallsV Tryd.prog 48 #[v, .agg x.enc.toArray] w (.bool b) := by
 have S := St.start w
 refine CallsV.mk ?_
 refine Z0l Tryd.func48 rfl (by intro _ h; first | exact nomatch h.1 | (obtain ⟨_, h, _⟩ := h; exact nomatch h)) Tryd.ntmps48 rfl ?_
 repeat' (first | refine Z0a ?_ | refine Z02 ?_ | refine Z08 ?_ | refine Z01 ?_ | refine Z0r ?_ | refine Z06 rfl ?_ | refine Z04 rfl ?_ | refine Z00 rfl (Z2x rfl rfl) ?_ | refine Z00 rfl (Z0m (i := 0) S rfl rfl rfl rfl) ?_ | ((refine Z0j rfl (Z0w rfl rfl rfl) (Zkd (x := x) (hr.mono S.below) hl) ?_; intro w hb; replace S := S.grow hb; clear hb)) | (refine Z2g ?_; refine Z0n rfl (Z2h S rfl) ?_; rintro _ w ⟨b, rfl, -, S'⟩; replace S := S'; clear S'))
 all_goals (refine end1 rfl rfl ⟨rb ?_, S.below⟩; subst hb; rw [Z9x])

abbrev RowDl (w0 : World) (r : List GSpot × Int) (v : Value) (w' : World) : Prop := ∃ vo, v = .tuple #[vo, .int .i64 r.2] ∧ Z2u Z1d 63 w0 w' vo r.1
def Z6a (vs : List GVerdict) (d item : Int) : Bool := ((vs.take (min (d + 10) vs.length).toNat).drop (max d 0).toNat).any (fun y => decide ((⟨1, item⟩ : GVerdict) = y))
def dlv (l : List GContract) (vs : List GVerdict) (from_ : Int) (s : GSpot) : Bool :=
 match Z49 l s.Contract with
 | none => false
 | some c => Z6a vs (s.At - from_) c.Item
def okDl (l : List GContract) (sp : List GSpot) (vs : List GVerdict) (from_ : Int) : Bool := Z2v l && (Z3s sp && (Z3m vs && inR from_ 0 10000000))
def delI (l : List GContract) (sp : List GSpot) (vs : List GVerdict) (from_ : Int) : List GSpot × Int := if okDl l sp vs from_ then (sp.filter (dlv l vs from_), 0) else ([], 390)
theorem Z6y {l : List GContract} {sp : List GSpot} {vs : List GVerdict} {from_ : Int} (h : okDl l sp vs from_ = false) : delI l sp vs from_ = ([], 390) := by unfold delI; rw [h]; rfl
abbrev iM (l : List GContract) : List (Int × Int) := l.map fun c => (c.ID, c.Item)
theorem Zke {l : List GContract} {id : Int} : mGet id (iM l) = (Z49 l id).map (·.Item) := by
 unfold Z49
 induction l with
 | nil => rfl
 | cons a l ih =>
  simp only [iM, List.map_cons, mGet, List.find?_cons]
  by_cases h : id = a.ID
  ·rw [if_pos h, decide_eq_true h.symm]; rfl
  ·rw [if_neg h, decide_eq_false (fun e => h e.symm)]; exact ih
theorem take_iM {l : List GContract} (h : Z2v l = true) {i : Int} (h0 : 0 ≤ i) (hi : i < l.length) : mPut (nth l i).ID (nth l i).Item (iM (l.take i.toNat)) = iM (l.take (i + 1).toNat) := by
 have hn := Z8j h h0 hi
 rw [Z8g] at hn
 rw [Za3 (by rw [Zke]; unfold Z49; rw [hn]; rfl), show (i + 1).toNat = i.toNat + 1 by omega, List.take_add_one, Z1u h0 hi]
 unfold iM
 rw [List.map_append]; rfl
theorem Zbc {p : GSpot → Bool} {sp : List GSpot} {i : Int} (h0 : 0 ≤ i) (hi : i < sp.length) : (sp.take (i + 1).toNat).filter p = (sp.take i.toNat).filter p ++ (if p (nth sp i) = true then [nth sp i] else []) := by
 rw [show (i + 1).toNat = i.toNat + 1 by omega, List.take_add_one, Z1u h0 hi, Option.toList_some, List.filter_append]
 congr 1
 cases h : p (nth sp i) <;> simp [List.filter_cons, h]
theorem Zkf {vs : List GVerdict} {d item : Int} (h : ¬ max d 0 < min (d + 10) vs.length) : Z6a vs d item = false := by
 unfold Z6a
 rw [List.drop_eq_nil_of_le (by rw [List.length_take]; omega)]; rfl
set_option maxHeartbeats 1000000 in
theorem Zkg {l : List GContract} {sp : List GSpot} {vs : List GVerdict} {from_ : Int} {v1 v2 v3 : Value} {w0 : World} (hr1 : Rd Z14.ty w0 v1 l) (hr2 : Rd Z1d.ty w0 v2 sp) (hr3 : Rd Z1j.ty w0 v3 vs) (hl1 : l.length ≤ 1000000000) (hl2 : sp.length ≤ 1000000000) (hl3 : vs.length ≤ 1000000000) :
  CallsR Tryd.prog 16 #[v1, v2, v3, .int .i64 from_] w0 (RowDl w0 (delI l sp vs from_)) := by
 have S := St.start w0
 obtain ⟨A, c, rfl⟩ := hr1.len
 obtain ⟨A2, c2, rfl⟩ := hr2.len
 obtain ⟨A3, c3, rfl⟩ := hr3.len
 refine CallsR.mk ?_
 refine Z0l Tryd.func16 rfl (by intro _ h; first | exact nomatch h.1 | (obtain ⟨_, h, _⟩ := h; exact nomatch h)) Tryd.ntmps16 rfl ?_
 cases h1 : Z2v l with
 | false =>
  have e := Z6y (sp := sp) (vs := vs) (from_ := from_) (l := l) (by unfold okDl; rw [h1]; rfl)
  repeat' (first | refine Z0a ?_ | refine Z02 ?_ | refine Z08 ?_ | refine Z01 ?_ | refine Z0x ?_ | refine Z0r ?_ | refine Z0v rfl ?_ | (refine Z1c ?_; refine Z1p rfl ?_) | refine Z06 rfl ?_ | refine Z04 rfl ?_ | refine Z0u rfl rfl ?_ | refine Z00 rfl (Z1w rfl) ?_ | ((refine Z0j rfl (Z1h rfl rfl) (Z5w h1 (hr1.mono S.below) hl1) ?_; intro w hb; replace S := S.grow hb; clear hb)))
  exact end2 rfl rfl rfl ⟨_, rfl, S.below, _, by rw [e]; rfl, by rw [e]; exact Z2u.nil _ _ _ _⟩
 | true =>
 cases h2 : Z3s sp with
 | false =>
  have e := Z6y (sp := sp) (vs := vs) (from_ := from_) (l := l) (by unfold okDl; rw [h2]; simp)
  repeat' (first | refine Z0a ?_ | refine Z02 ?_ | refine Z08 ?_ | refine Z01 ?_ | refine Z0x ?_ | refine Z0r ?_ | refine Z0v rfl ?_ | (refine Z1c ?_; refine Z1p rfl ?_) | refine Z06 rfl ?_ | refine Z04 rfl ?_ | (first | refine Z0u rfl rfl ?_ | refine Z0t rfl rfl ?_) | refine Z00 rfl (Z1w rfl) ?_ | (first | (refine Z0j rfl (Z1h rfl rfl) (Z5w h1 (hr1.mono S.below) hl1) ?_; intro w hb; replace S := S.grow hb; clear hb) | (refine Z0j rfl (Z1h rfl rfl) (Z46 h2 (hr2.mono S.below) hl2) ?_; intro w hb; replace S := S.grow hb; clear hb)))
  exact end2 rfl rfl rfl ⟨_, rfl, S.below, _, by rw [e]; rfl, by rw [e]; exact Z2u.nil _ _ _ _⟩
 | true =>
 cases h3 : Z3m vs with
 | false =>
  have e := Z6y (sp := sp) (vs := vs) (from_ := from_) (l := l) (by unfold okDl; rw [h3]; simp)
  repeat' (first | refine Z0a ?_ | refine Z02 ?_ | refine Z08 ?_ | refine Z01 ?_ | refine Z0x ?_ | refine Z0r ?_ | refine Z0v rfl ?_ | (refine Z1c ?_; refine Z1p rfl ?_) | refine Z06 rfl ?_ | refine Z04 rfl ?_ | (first | refine Z0u rfl rfl ?_ | refine Z0t rfl rfl ?_) | refine Z00 rfl (Z1w rfl) ?_ | (first | (refine Z0j rfl (Z1h rfl rfl) (Z5w h1 (hr1.mono S.below) hl1) ?_; intro w hb; replace S := S.grow hb; clear hb) | (refine Z0j rfl (Z1h rfl rfl) (Z46 h2 (hr2.mono S.below) hl2) ?_; intro w hb; replace S := S.grow hb; clear hb) | (refine Z0j rfl (Z1h rfl rfl) (Z69 h3 (hr3.mono S.below) hl3) ?_; intro w hb; replace S := S.grow hb; clear hb)))
  exact end2 rfl rfl rfl ⟨_, rfl, S.below, _, by rw [e]; rfl, by rw [e]; exact Z2u.nil _ _ _ _⟩
 | true =>
 cases h4 : inR from_ 0 10000000 with
 | false =>
  have e := Z6y (sp := sp) (vs := vs) (from_ := from_) (l := l) (by unfold okDl; rw [h4]; simp)
  repeat' (first | refine Z0a ?_ | refine Z02 ?_ | refine Z08 ?_ | refine Z01 ?_ | refine Z0x ?_ | refine Z0r ?_ | refine Z0v rfl ?_ | refine Z06 rfl ?_ | refine Z04 rfl ?_ | refine Z0t rfl rfl ?_ | refine Z00 rfl (Z1w rfl) ?_ | (first | (refine Z0j rfl (Z1h rfl rfl) (Z5w h1 (hr1.mono S.below) hl1) ?_; intro w hb; replace S := S.grow hb; clear hb) | (refine Z0j rfl (Z1h rfl rfl) (Z46 h2 (hr2.mono S.below) hl2) ?_; intro w hb; replace S := S.grow hb; clear hb) | (refine Z0j rfl (Z1h rfl rfl) (Z69 h3 (hr3.mono S.below) hl3) ?_; intro w hb; replace S := S.grow hb; clear hb) | (refine Z0j rfl (Z1t rfl rfl rfl rfl) (Z81 h4) ?_; intro w hb; replace S := S.grow hb; clear hb)))
  exact end2 rfl rfl rfl ⟨_, rfl, S.below, _, by rw [e]; rfl, by rw [e]; exact Z2u.nil _ _ _ _⟩
 | true =>
 have e : delI l sp vs from_ = (sp.filter (dlv l vs from_), 0) := by unfold delI okDl; rw [h1, h2, h3, h4]; rfl
 have hfr : 0 ≤ from_ ∧ from_ ≤ 10000000 := of_decide_eq_true h4
 have hspa := Zkc (l := l) (sp := sp) (by unfold okI; rw [h1, h2]; rfl)
 have hvl := Z68 h3
 repeat' (first | refine Z0a ?_ | refine Z02 ?_ | refine Z08 ?_ | refine Z01 ?_ | refine Z0k ?_ | refine Z18 rfl ?_ | refine Z06 rfl ?_ | refine Z04 rfl ?_ | refine Z0t rfl rfl ?_ | refine Z00 rfl (Z1w rfl) ?_ | (first | (refine Z0j rfl (Z1h rfl rfl) (Z5w h1 (hr1.mono S.below) hl1) ?_; intro w hb; replace S := S.grow hb; clear hb) | (refine Z0j rfl (Z1h rfl rfl) (Z46 h2 (hr2.mono S.below) hl2) ?_; intro w hb; replace S := S.grow hb; clear hb) | (refine Z0j rfl (Z1h rfl rfl) (Z69 h3 (hr3.mono S.below) hl3) ?_; intro w hb; replace S := S.grow hb; clear hb) | (refine Z0j rfl (Z1t rfl rfl rfl rfl) (Z81 h4) ?_; intro w hb; replace S := S.grow hb; clear hb)))
 refine Z0n rfl (Z5p (eK := eI) (eV := eI) S) ?_
 rintro _ w ⟨bm, rfl, -, S'⟩; replace S := S'; clear S'
 repeat' (first | refine Z0a ?_ | refine Z02 ?_ | refine Z08 ?_ | refine Z01 ?_ | refine Z0f ?_ | refine Z06 rfl ?_ | refine Z04 rfl ?_ | refine Z00 rfl (Z0e rfl) ?_)
 refine Z1l (fun m σ w1 => ∃ (i : Int), Has σ [(1, .slice A2 sp.length c2), (2, .slice A3 vs.length c3), (3, .int .i64 from_), (10, .map (some bm)), (39, .slice A l.length c), (40, .int .i64 l.length), (41, .int .i64 i)] ∧ St w0 w1 [Z2r eI eI bm (iM (l.take i.toNat))] ∧ 0 ≤ i ∧ i ≤ l.length ∧ m = l.length - i.toNat) l.length ⟨0, ⟨rfl, rfl, rfl, rfl, rfl, rfl, rfl, trivial⟩, S, by omega, by omega, by omega⟩ ?_
 clear S
 rintro m σ w1 ⟨i, hs, S, hi0, hi1, rfl⟩
 refine Z1o hs ?_
 by_cases hi : i < l.length
 ·repeat' (first | refine Z0a ?_ | refine Z02 ?_ | refine Z08 ?_ | refine Z01 ?_ | refine Z0h ?_ | refine Z0k ?_ | refine Z0f ?_ | refine Z06 rfl ?_ | ((refine Z00 rfl (Z12 rfl rfl ?_ ?_) ?_; (first | omega | simp <;> omega); (first | omega | simp <;> omega))) | refine Z00 rfl (Z0z rfl rfl) ?_ | refine Z00 rfl (Z09 rfl) ?_ | ((refine Z00 rfl (Z07 (hr1.mono S.below) rfl rfl ?_ ?_) ?_; (first | omega | simp <;> omega); (first | omega | simp <;> omega))) | (first | (refine Z00 rfl (Z19 (hr1.mono S.below) rfl ?_ ?_) ?_; (first | omega | simp <;> omega); (first | omega | simp <;> omega)) | refine Z00 rfl (Z0b (i := 1) S rfl rfl rfl) ?_) | (refine Z0n rfl (Z1i S) ?_; rintro _ w ⟨b, rfl, -, S'⟩; replace S := S'; clear S') | (first | (refine Z05 rfl (Z03 (i := 0) S rfl rfl rfl rfl (dqq rfl) (dqq rfl)) ?_; clear S; intro w S) | (refine Z05 rfl (Z03 (i := 1) S rfl rfl rfl rfl (dqq rfl) (dqq rfl)) ?_; clear S; intro w S)) | (refine Z05 rfl (Z4v (i := 0) (eK := eI) (eV := eI) (k := (nth l i).ID) (v := (nth l i).Item) S rfl rfl rfl rfl) ?_; clear S; intro w S) | (refine Z0g rfl (fun h => ?_) (fun h => ?_) <;> (fail_if_success first | have := ntT h | have := ntF h) <;> (try simp only [tdyB] at h) <;> (try (exfalso; omega))))
  rw [take_iM h1 hi0 hi] at S
  refine ⟨⟨_, ?_, i + 1, ⟨rfl, rfl, rfl, rfl, rfl, rfl, rfl, trivial⟩, S.keep [true, false], by omega, by omega, rfl⟩⟩
  omega
 have hil : i.toNat = l.length := by omega
 rw [hil, List.take_length] at S
 repeat' (first | refine Z0a ?_ | refine Z02 ?_ | refine Z08 ?_ | refine Z01 ?_ | refine Z0s ?_ | refine Z15 ?_ | refine Z1b ?_ | refine Z0f ?_ | refine Z06 rfl ?_ | refine Z04 rfl ?_ | refine Z00 rfl (Z0z rfl rfl) ?_ | refine Z00 rfl (Z0e rfl) ?_ | (refine Z0g rfl (fun h => ?_) (fun h => ?_) <;> (fail_if_success first | have := ntT h | have := ntF h) <;> (try simp only [tdyB] at h) <;> (try (exfalso; omega))))
 replace S := S.nilRow Z1d 63
 have hspl := Z4x h2
 refine Z1l (fun m σ w1 => ∃ (i : Int) (vo : Value), Has σ [(2, .slice A3 vs.length c3), (3, .int .i64 from_), (10, .map (some bm)), (13, vo), (51, .slice A2 sp.length c2), (52, .int .i64 sp.length), (53, .int .i64 i)] ∧ St w0 w1 [Z2r eI eI bm (iM l), Z16 Z1d 63 vo ((sp.take i.toNat).filter (dlv l vs from_))] ∧ 0 ≤ i ∧ i ≤ sp.length ∧ m = sp.length - i.toNat) sp.length ⟨0, .slice none 0 0, ⟨rfl, rfl, rfl, rfl, rfl, rfl, rfl, trivial⟩, S, by omega, by omega, by omega⟩ ?_
 clear S hs
 rintro m σ w1 ⟨i, vo, hs, S, hi0, hi1, rfl⟩
 refine Z1o hs ?_
 by_cases hi : i < sp.length
 ·have hft := @Zbc (dlv l vs from_) sp i hi0 hi
  have hsa := hspa _ (Z2e hi0 hi)
  have hm := @Zke l (nth sp i).Contract
  have hfl := List.length_filter_le (dlv l vs from_) (sp.take i.toNat)
  rw [List.length_take] at hfl
  cases hc : Z49 l (nth sp i).Contract with
  | none =>
   rw [hc] at hm
   have hd : dlv l vs from_ (nth sp i) = false := by unfold dlv; rw [hc]
   rw [hd] at hft
   repeat' (first | refine Z0a ?_ | refine Z02 ?_ | refine Z08 ?_ | refine Z01 ?_ | refine Z0h ?_ | refine Z0k ?_ | refine Z0f ?_ | refine Z18 rfl ?_ | refine Z1s (by kernel_rfl) (by kernel_rfl) ?_ | (refine Z1q ?_; intro w hb; replace S := S.grow hb; clear hb) | (refine Z1c ?_; refine Z1p rfl ?_) | refine Z06 rfl ?_ | refine Z04 rfl ?_ | refine Z0t rfl rfl ?_ | ((refine Z00 rfl (Z12 rfl rfl ?_ ?_) ?_; (first | omega | simp <;> omega); (first | omega | simp <;> omega))) | refine Z00 rfl (Z0z rfl rfl) ?_ | refine Z00 rfl (Z0y rfl rfl) ?_ | refine Z00 rfl (Z09 rfl) ?_ | ((refine Z00 rfl (Z07 (hr2.mono S.below) rfl rfl ?_ ?_) ?_; (first | omega | simp <;> omega); (first | omega | simp <;> omega))) | (first | (refine Z00 rfl (Z19 (hr2.mono S.below) rfl ?_ ?_) ?_; (first | omega | simp <;> omega); (first | omega | simp <;> omega)) | refine Z00 rfl (Z0b (i := 2) S rfl rfl rfl) ?_) | (refine Z1e ?_; refine Z1r rfl ?_) | (refine Z42 ?_; refine Z4g rfl ?_) | (refine Z3o ?_; (refine Z0c rfl (fun w' hb => Z12 rfl rfl ?_ ?_) ?_; (first | omega | simp <;> omega); (first | omega | simp <;> omega))) | (refine Z2f ?_; (refine Z0c rfl (fun w' hb => Z24 rfl rfl ?_ ?_) ?_; (first | omega | simp <;> omega); (first | omega | simp <;> omega))) | (refine Z6d ?_; refine Z0c rfl (fun w' hb => Z6k rfl rfl) ?_) | (refine Z9u ?_; refine Z0c rfl (fun w' hb => Z6l rfl rfl) ?_) | (refine Z9t ?_; refine Z0c rfl (fun w' hb => Z0e rfl) ?_) | (refine Z10 ?_; refine Z0c rfl (fun w' hb => Z09 rfl) ?_) | (refine Z1f ?_; refine Z0c rfl (fun w' hb => Z0b (i := 2) (S.grow hb) rfl rfl rfl) ?_) | (refine Z0n rfl (Z1i S) ?_; rintro _ w ⟨b, rfl, -, S'⟩; replace S := S'; clear S') | (first | (refine Z05 rfl (Z03 (i := 0) S rfl rfl rfl rfl (dqq rfl) (dqq rfl)) ?_; clear S; intro w S) | (refine Z05 rfl (Z03 (i := 1) S rfl rfl rfl rfl (dqq rfl) (dqq rfl)) ?_; clear S; intro w S) | (refine Z05 rfl (Z03 (i := 2) S rfl rfl rfl rfl (dqq rfl) (dqq rfl)) ?_; clear S; intro w S)) | refine Z00 rfl (Ze2 (k := (nth sp i).Contract) (eK := eI) (eV := eI) (S.mapAt (i := 0) rfl) hm rfl rfl) ?_ | (refine Z0g rfl (fun h => ?_) (fun h => ?_) <;> (fail_if_success first | have := ntT h | have := ntF h) <;> (try simp only [tdyB] at h) <;> (try (exfalso; omega))))
   all_goals
    refine ⟨⟨_, ?_, i + 1, vo, ⟨rfl, rfl, rfl, rfl, rfl, rfl, rfl, trivial⟩, ?_, by omega, by omega, rfl⟩⟩
    ·omega
    ·rw [hft, if_neg (by simp), List.append_nil]; exact S.keep [true, true, false]
  | some c' =>
   rw [hc] at hm
   have hd : dlv l vs from_ (nth sp i) = Z6a vs ((nth sp i).At - from_) c'.Item := by unfold dlv; rw [hc]
   rw [hd] at hft
   by_cases hlt : max ((nth sp i).At - from_) 0 < min ((nth sp i).At - from_ + 10) vs.length
   ·have hcutl : ((vs.take (min ((nth sp i).At - from_ + 10) vs.length).toNat).drop (max ((nth sp i).At - from_) 0).toNat).length ≤ 1000000000 := by rw [List.length_drop, List.length_take]; omega
    cases hb : Z6a vs ((nth sp i).At - from_) c'.Item with
    | false =>
     rw [hb] at hft
     unfold Z6a at hb
     repeat' (first | refine Z0a ?_ | refine Z02 ?_ | refine Z08 ?_ | refine Z01 ?_ | refine Z0h ?_ | refine Z0k ?_ | refine Z0f ?_ | refine Z18 rfl ?_ | refine Z1s (by kernel_rfl) (by kernel_rfl) ?_ | (refine Z1q ?_; intro w hb; replace S := S.grow hb; clear hb) | refine Z06 rfl ?_ | refine Z04 rfl ?_ | refine Z0u rfl rfl ?_ | ((refine Z00 rfl (Z12 rfl rfl ?_ ?_) ?_; (first | omega | simp <;> omega); (first | omega | simp <;> omega))) | refine Z00 rfl (Z0z rfl rfl) ?_ | refine Z00 rfl (Z4j rfl rfl) ?_ | refine Z00 rfl (Z0y rfl rfl) ?_ | refine Z00 rfl (Z09 rfl) ?_ | ((refine Z00 rfl (Z07 (hr2.mono S.below) rfl rfl ?_ ?_) ?_; (first | omega | simp <;> omega); (first | omega | simp <;> omega))) | (first | (refine Z00 rfl (Z19 (hr2.mono S.below) rfl ?_ ?_) ?_; (first | omega | simp <;> omega); (first | omega | simp <;> omega)) | refine Z00 rfl (Z0b (i := 2) S rfl rfl rfl) ?_) | ((refine Z0j rfl (Z0w rfl rfl rfl) (Zek (x := ⟨1, c'.Item⟩) hb ((hr3.mono S.below).cut (by omega) (by omega)) hcutl) ?_; intro w hb; replace S := S.grow hb; clear hb)) | (refine Z1e ?_; refine Z1r rfl ?_) | (refine Z42 ?_; refine Z4g rfl ?_) | (refine Z3o ?_; (refine Z0c rfl (fun w' hb => Z12 rfl rfl ?_ ?_) ?_; (first | omega | simp <;> omega); (first | omega | simp <;> omega))) | (refine Z2f ?_; (refine Z0c rfl (fun w' hb => Z24 rfl rfl ?_ ?_) ?_; (first | omega | simp <;> omega); (first | omega | simp <;> omega))) | (refine Z6d ?_; refine Z0c rfl (fun w' hb => Z6k rfl rfl) ?_) | (refine Z9u ?_; refine Z0c rfl (fun w' hb => Z6l rfl rfl) ?_) | (refine Z9t ?_; refine Z0c rfl (fun w' hb => Z0e rfl) ?_) | (refine Z10 ?_; refine Z0c rfl (fun w' hb => Z09 rfl) ?_) | (refine Z1f ?_; refine Z0c rfl (fun w' hb => Z0b (i := 2) (S.grow hb) rfl rfl rfl) ?_) | (refine Z0n rfl (Z1i S) ?_; rintro _ w ⟨b, rfl, -, S'⟩; replace S := S'; clear S') | (first | (refine Z05 rfl (Z03 (i := 0) S rfl rfl rfl rfl (dqq rfl) (dqq rfl)) ?_; clear S; intro w S) | (refine Z05 rfl (Z03 (i := 1) S rfl rfl rfl rfl (dqq rfl) (dqq rfl)) ?_; clear S; intro w S) | (refine Z05 rfl (Z03 (i := 2) S rfl rfl rfl rfl (dqq rfl) (dqq rfl)) ?_; clear S; intro w S)) | refine Z00 rfl (Z8a (k := (nth sp i).Contract) (eK := eI) (eV := eI) (S.mapAt (i := 0) rfl) hm rfl rfl) ?_ | refine Z00 rfl (Zis (hr3.mono S.below) rfl rfl rfl (by omega) (by omega) (by omega)) ?_ | (refine Z13 rfl rfl (fun h => ?_) (fun h => ?_) <;> (fail_if_success first | have := ntT h | have := ntF h) <;> (try simp only [tdyB] at h) <;> (try (exfalso; omega))) | (refine Z0g rfl (fun h => ?_) (fun h => ?_) <;> (fail_if_success first | have := ntT h | have := ntF h) <;> (try simp only [tdyB] at h) <;> (try (exfalso; omega))))
     all_goals
      refine ⟨⟨_, ?_, i + 1, vo, ⟨rfl, rfl, rfl, rfl, rfl, rfl, rfl, trivial⟩, ?_, by omega, by omega, rfl⟩⟩
      ·omega
      ·rw [hft, if_neg (by simp), List.append_nil]; exact S.keep [true, true, false]
    | true =>
     rw [hb] at hft
     unfold Z6a at hb
     repeat' (first | refine Z0a ?_ | refine Z02 ?_ | refine Z08 ?_ | refine Z01 ?_ | refine Z0k ?_ | refine Z0f ?_ | refine Z0v rfl ?_ | refine Z1s (by kernel_rfl) (by kernel_rfl) ?_ | (refine Z1q ?_; intro w hb; replace S := S.grow hb; clear hb) | refine Z06 rfl ?_ | refine Z04 rfl ?_ | refine Z0u rfl rfl ?_ | refine Z00 rfl (Z0z rfl rfl) ?_ | refine Z00 rfl (Z4j rfl rfl) ?_ | refine Z00 rfl (Z0y rfl rfl) ?_ | refine Z00 rfl (Z09 rfl) ?_ | ((refine Z00 rfl (Z07 (hr2.mono S.below) rfl rfl ?_ ?_) ?_; (first | omega | simp <;> omega); (first | omega | simp <;> omega))) | (first | (refine Z00 rfl (Z19 (hr2.mono S.below) rfl ?_ ?_) ?_; (first | omega | simp <;> omega); (first | omega | simp <;> omega)) | refine Z00 rfl (Z0b (i := 2) S rfl rfl rfl) ?_ | refine Z00 rfl (Z0m (i := 2) S rfl rfl rfl rfl) ?_) | ((refine Z0j rfl (Z0w rfl rfl rfl) (Zek (x := ⟨1, c'.Item⟩) hb ((hr3.mono S.below).cut (by omega) (by omega)) hcutl) ?_; intro w hb; replace S := S.grow hb; clear hb)) | (refine Z1e ?_; refine Z1r rfl ?_) | (refine Z42 ?_; refine Z4g rfl ?_) | (refine Z3o ?_; (refine Z0c rfl (fun w' hb => Z12 rfl rfl ?_ ?_) ?_; (first | omega | simp <;> omega); (first | omega | simp <;> omega))) | (refine Z2f ?_; (refine Z0c rfl (fun w' hb => Z24 rfl rfl ?_ ?_) ?_; (first | omega | simp <;> omega); (first | omega | simp <;> omega))) | (refine Z6d ?_; refine Z0c rfl (fun w' hb => Z6k rfl rfl) ?_) | (refine Z9u ?_; refine Z0c rfl (fun w' hb => Z6l rfl rfl) ?_) | (refine Z9t ?_; refine Z0c rfl (fun w' hb => Z0e rfl) ?_) | (refine Z10 ?_; refine Z0c rfl (fun w' hb => Z09 rfl) ?_) | (refine Z1f ?_; refine Z0c rfl (fun w' hb => Z0b (i := 2) (S.grow hb) rfl rfl rfl) ?_) | (refine Z0n rfl (Z1i S) ?_; rintro _ w ⟨b, rfl, -, S'⟩; replace S := S'; clear S') | (first | (refine Z05 rfl (Z03 (i := 0) S rfl rfl rfl rfl (dqq rfl) (dqq rfl)) ?_; clear S; intro w S) | (refine Z05 rfl (Z03 (i := 1) S rfl rfl rfl rfl (dqq rfl) (dqq rfl)) ?_; clear S; intro w S) | (refine Z05 rfl (Z03 (i := 2) S rfl rfl rfl rfl (dqq rfl) (dqq rfl)) ?_; clear S; intro w S)) | refine Z00 rfl (Z8a (k := (nth sp i).Contract) (eK := eI) (eV := eI) (S.mapAt (i := 0) rfl) hm rfl rfl) ?_ | refine Z00 rfl (Zis (hr3.mono S.below) rfl rfl rfl (by omega) (by omega) (by omega)) ?_ | (refine Z13 rfl rfl (fun h => ?_) (fun h => ?_) <;> (fail_if_success first | have := ntT h | have := ntF h) <;> (try simp only [tdyB] at h) <;> (try (exfalso; omega))) | (refine Z0g rfl (fun h => ?_) (fun h => ?_) <;> (fail_if_success first | have := ntT h | have := ntF h) <;> (try simp only [tdyB] at h) <;> (try (exfalso; omega))))
     refine Z0n rfl (Z2z (D := Z1d) [nth sp i] (fun y => .agg y.enc.toArray) S rfl rfl (fun _ => rfl) rfl (by decide) (by decide)) ?_
     rintro _ w ⟨bl, rfl, -, hcl, S'⟩; replace S := S'; clear S'
     refine Z0n rfl (Z2t (D := Z1d) (i := 1) (b := bl) (x := nth sp i) S rfl rfl rfl (Z53 hcl) rfl (by decide) (dqq rfl) (by omega) (by omega)) ?_
     rintro vo' w ⟨-, S'⟩; replace S := S'; clear S' hcl
     repeat' (first | refine Z02 ?_ | refine Z08 ?_ | refine Z01 ?_ | refine Z0h ?_ | refine Z06 rfl ?_ | refine Z04 rfl ?_ | ((refine Z00 rfl (Z12 rfl rfl ?_ ?_) ?_; (first | omega | simp <;> omega); (first | omega | simp <;> omega))))
     refine ⟨⟨_, ?_, i + 1, vo', ⟨rfl, rfl, rfl, rfl, rfl, rfl, rfl, trivial⟩, ?_, by omega, by omega, rfl⟩⟩
     ·omega
     ·rw [hft, if_pos rfl]; exact S.keep [true, true, false, false]
   ·rw [Zkf hlt] at hft
    repeat' (first | refine Z0a ?_ | refine Z02 ?_ | refine Z08 ?_ | refine Z01 ?_ | refine Z0h ?_ | refine Z0k ?_ | refine Z0f ?_ | refine Z18 rfl ?_ | refine Z1s (by kernel_rfl) (by kernel_rfl) ?_ | (refine Z1q ?_; intro w hb; replace S := S.grow hb; clear hb) | (refine Z1c ?_; refine Z1p rfl ?_) | refine Z06 rfl ?_ | refine Z04 rfl ?_ | (first | refine Z0u rfl rfl ?_ | refine Z0t rfl rfl ?_) | ((refine Z00 rfl (Z12 rfl rfl ?_ ?_) ?_; (first | omega | simp <;> omega); (first | omega | simp <;> omega))) | refine Z00 rfl (Z0z rfl rfl) ?_ | refine Z00 rfl (Z0y rfl rfl) ?_ | refine Z00 rfl (Z09 rfl) ?_ | ((refine Z00 rfl (Z07 (hr2.mono S.below) rfl rfl ?_ ?_) ?_; (first | omega | simp <;> omega); (first | omega | simp <;> omega))) | (first | (refine Z00 rfl (Z19 (hr2.mono S.below) rfl ?_ ?_) ?_; (first | omega | simp <;> omega); (first | omega | simp <;> omega)) | refine Z00 rfl (Z0b (i := 2) S rfl rfl rfl) ?_) | (refine Z1e ?_; refine Z1r rfl ?_) | (refine Z42 ?_; refine Z4g rfl ?_) | (refine Z3o ?_; (refine Z0c rfl (fun w' hb => Z12 rfl rfl ?_ ?_) ?_; (first | omega | simp <;> omega); (first | omega | simp <;> omega))) | (refine Z2f ?_; (refine Z0c rfl (fun w' hb => Z24 rfl rfl ?_ ?_) ?_; (first | omega | simp <;> omega); (first | omega | simp <;> omega))) | (refine Z6d ?_; refine Z0c rfl (fun w' hb => Z6k rfl rfl) ?_) | (refine Z9u ?_; refine Z0c rfl (fun w' hb => Z6l rfl rfl) ?_) | (refine Z9t ?_; refine Z0c rfl (fun w' hb => Z0e rfl) ?_) | (refine Z10 ?_; refine Z0c rfl (fun w' hb => Z09 rfl) ?_) | (refine Z1f ?_; refine Z0c rfl (fun w' hb => Z0b (i := 2) (S.grow hb) rfl rfl rfl) ?_) | (refine Z0n rfl (Z1i S) ?_; rintro _ w ⟨b, rfl, -, S'⟩; replace S := S'; clear S') | (first | (refine Z05 rfl (Z03 (i := 0) S rfl rfl rfl rfl (dqq rfl) (dqq rfl)) ?_; clear S; intro w S) | (refine Z05 rfl (Z03 (i := 1) S rfl rfl rfl rfl (dqq rfl) (dqq rfl)) ?_; clear S; intro w S) | (refine Z05 rfl (Z03 (i := 2) S rfl rfl rfl rfl (dqq rfl) (dqq rfl)) ?_; clear S; intro w S)) | refine Z00 rfl (Z8a (k := (nth sp i).Contract) (eK := eI) (eV := eI) (S.mapAt (i := 0) rfl) hm rfl rfl) ?_ | (refine Z13 rfl rfl (fun h => ?_) (fun h => ?_) <;> (fail_if_success first | have := ntT h | have := ntF h) <;> (try simp only [tdyB] at h) <;> (try (exfalso; omega)) <;> (try (exfalso; omega; done))) | (refine Z0g rfl (fun h => ?_) (fun h => ?_) <;> (fail_if_success first | have := ntT h | have := ntF h) <;> (try simp only [tdyB] at h) <;> (try (exfalso; omega)) <;> (try (exfalso; omega; done))))
    all_goals
     refine ⟨⟨_, ?_, i + 1, vo, ⟨rfl, rfl, rfl, rfl, rfl, rfl, rfl, trivial⟩, ?_, by omega, by omega, rfl⟩⟩
     ·omega
     ·rw [hft, if_neg (by simp), List.append_nil]; exact S.keep [true, true, false]
 have hil : i.toNat = sp.length := by omega
 rw [hil, List.take_length] at S
 repeat' (first | refine Z0a ?_ | refine Z02 ?_ | refine Z08 ?_ | refine Z01 ?_ | refine Z0s ?_ | refine Z15 ?_ | refine Z0r ?_ | refine Z1b ?_ | refine Z06 rfl ?_ | refine Z04 rfl ?_ | refine Z00 rfl (Z0z rfl rfl) ?_ | (refine Z0g rfl (fun h => ?_) (fun h => ?_) <;> (fail_if_success first | have := ntT h | have := ntF h) <;> (try simp only [tdyB] at h) <;> (try (exfalso; omega))))
 exact end2 rfl rfl rfl ⟨_, rfl, S.below, _, by rw [e]; rfl, by rw [e]; exact S.row (i := 1) rfl⟩

def dueC (cnt : List GSpot) (c : GContract) : Int := c.Price * cntC cnt c.ID
def dueL (l : List GContract) (sp : List GSpot) : List Int := l.map (dueC (cntS l sp))
def dueI (l : List GContract) (sp : List GSpot) : List Int × Int := if okI l sp then (dueL l sp, 0) else ([], 390)
theorem Zcb {l : List GContract} {sp : List GSpot} {r : List Int × Int} {v1 v2 : Value} {w0 : World} (h : Z3b l sp = r) (hr1 : Rd Z14.ty w0 v1 l) (hr2 : Rd Z1d.ty w0 v2 sp) (hl : l.length ≤ 1000000000) (hl2 : sp.length ≤ 1000000000) (hG : Z8e w0) :
  CallsR Tryd.prog 33 #[v1, v2] w0 (RowE w0 r) := by rw [← h]; exact Zfl hr1 hr2 hl hl2 hG
theorem Zbd {l : List GContract} (h : Z2v l = true) {c : GContract} (hc : c ∈ l) : 0 ≤ c.Price ∧ c.Price ≤ 1000000 := by
 have := Z6g h hc
 unfold okC okN at this
 simp only [Bool.and_eq_true, decide_eq_true_eq] at this
 omega
theorem Zfr {p n : Int} (hp : 0 ≤ p ∧ p ≤ 1000000) (hn : 0 ≤ n ∧ n ≤ 60) : 0 ≤ p * n ∧ p * n ≤ 60000000 :=
 ⟨Int.mul_nonneg hp.1 hn.1, by have := Int.mul_le_mul hp.2 hn.2 hn.1 (by omega : (0 : Int) ≤ 1000000); omega⟩
theorem cntS_len {l : List GContract} {sp : List GSpot} : (cntS l sp).length ≤ sp.length := by unfold cntS spAt; rw [List.length_map]; exact Zd3 l sp
theorem Zfs {l : List GContract} {sp : List GSpot} {i : Int} (h0 : 0 ≤ i) (hi : i < l.length) : nth (dueL l sp) i = dueC (cntS l sp) (nth l i) := by
 have h1 := Z1u (l := dueL l sp) (i := i) h0 (by unfold dueL; rw [List.length_map]; exact hi)
 unfold dueL at h1
 rw [List.getElem?_map, Z1u h0 hi] at h1
 exact (Option.some.inj h1).symm
theorem Zaa {l : List GContract} {sp : List GSpot} : (dueL l sp).length = l.length := by unfold dueL; rw [List.length_map]
theorem due_put {l : List GContract} {f : GContract → Int} {i : Int} (h0 : 0 ≤ i) (hi : i < l.length) : ((l.take i.toNat).map f ++ List.replicate (l.length - i.toNat) 0).set i.toNat (f (nth l i)) = (l.take (i + 1).toNat).map f ++ List.replicate (l.length - (i + 1).toNat) 0 := by
 have hl : ((l.take i.toNat).map f).length = i.toNat := by rw [List.length_map, List.length_take]; omega
 rw [List.set_append_right _ _ (by omega), hl, Nat.sub_self, show l.length - i.toNat = (l.length - (i + 1).toNat) + 1 by omega, List.replicate_succ, List.set_cons_zero, show (i + 1).toNat = i.toNat + 1 by omega, List.take_add_one, Z1u h0 hi, Option.toList_some, List.map_append, List.append_assoc]
 rfl
set_option maxHeartbeats 1000000 in
theorem Zkh {l : List GContract} {sp : List GSpot} {v1 v2 : Value} {w0 : World} (hr1 : Rd Z14.ty w0 v1 l) (hr2 : Rd Z1d.ty w0 v2 sp) (hl1 : l.length ≤ 1000000000) (hl2 : sp.length ≤ 1000000000) (hG : Z8e w0) :
  CallsR Tryd.prog 18 #[v1, v2] w0 (RowE w0 (dueI l sp)) := by
 have S := St.start w0
 obtain ⟨A, c, rfl⟩ := hr1.len
 obtain ⟨A2, c2, rfl⟩ := hr2.len
 refine CallsR.mk ?_
 refine Z0l Tryd.func18 rfl (by intro _ h; first | exact nomatch h.1 | (obtain ⟨_, h, _⟩ := h; exact nomatch h)) Tryd.ntmps18 rfl ?_
 repeat' (first | refine Z0a ?_ | refine Z02 ?_ | refine Z08 ?_ | refine Z01 ?_ | refine Z06 rfl ?_ | refine Z04 rfl ?_)
 cases h : okI l sp with
 | false =>
  have e : dueI l sp = ([], 390) := by unfold dueI; rw [h]; rfl
  refine Z25 rfl (Z0w rfl rfl rfl) (Zcb (r := ([], 120)) (by unfold Z3b; rw [h]; rfl) (hr1.mono S.below) (hr2.mono S.below) hl1 hl2 (hG.mono S.below)) ?_
  rintro _ w hb ⟨vd, rfl, hrow⟩
  replace S := S.new hb hrow; clear hb hrow
  repeat' (first | refine Z0a ?_ | refine Z02 ?_ | refine Z08 ?_ | refine Z01 ?_ | refine Z0x ?_ | refine Z0r ?_ | refine Z0v rfl ?_ | refine Z06 rfl ?_ | refine Z04 rfl ?_ | refine Z00 rfl (Z33 rfl rfl) ?_ | refine Z00 rfl (Z0y rfl rfl) ?_)
  exact end2 rfl rfl rfl ⟨_, rfl, S.below, _, by rw [e]; rfl, by rw [e]; exact Z2u.nil _ _ _ _⟩
 | true =>
 have e : dueI l sp = (dueL l sp, 0) := by unfold dueI; rw [h]; rfl
 obtain ⟨h1, h2⟩ := Zec h
 have hl12 := Z5j h1
 have hp60 := Z4x h2
 have hcl := Zd3 l sp
 have hom : ∀ x ∈ cntI l sp, 0 ≤ x ∧ x < sp.length := fun y hy => Zgq hy
 rw [e]
 refine Z25 rfl (Z0w rfl rfl rfl) (Zcb (r := (cntI l sp, 0)) (by unfold Z3b; rw [h]; rfl) (hr1.mono S.below) (hr2.mono S.below) hl1 hl2 (hG.mono S.below)) ?_
 rintro _ w hb ⟨vd, rfl, hrow⟩
 replace S := S.new hb hrow; clear hb hrow
 obtain ⟨out, hout⟩ : ∃ out, cntI l sp = out := ⟨_, rfl⟩
 have ecs : cntS l sp = spAt sp out := by unfold cntS; rw [hout]
 unfold dueL
 rw [ecs]
 rw [hout] at S hcl hom
 obtain ⟨A3, c3, hz⟩ := (S.rdRow (D := fInt .i64) (i := 0) rfl).len; subst hz
 repeat' (first | refine Z0a ?_ | refine Z02 ?_ | refine Z08 ?_ | refine Z01 ?_ | refine Z0k ?_ | refine Z18 rfl ?_ | refine Z06 rfl ?_ | refine Z04 rfl ?_ | refine Z00 rfl (Z33 rfl rfl) ?_ | refine Z00 rfl (Z0y rfl rfl) ?_)
 refine Z0n rfl (Z5p (eK := eI) (eV := eI) S) ?_
 rintro _ w ⟨bm, rfl, -, S'⟩; replace S := S'; clear S'
 repeat' (first | refine Z0a ?_ | refine Z02 ?_ | refine Z08 ?_ | refine Z01 ?_ | refine Z0f ?_ | refine Z06 rfl ?_ | refine Z04 rfl ?_ | refine Z00 rfl (Z0e rfl) ?_)
 refine Z1l (fun m σ w1 => ∃ (i : Int) (Mn : List (Int × Int)), Has σ [(0, .slice A l.length c), (1, .slice A2 sp.length c2), (8, .map (some bm)), (23, .slice A3 out.length c3), (24, .int .i64 out.length), (25, .int .i64 i)] ∧ St w0 w1 [Z16 (fInt .i64) 3 (.slice A3 out.length c3) out, Z2r eI eI bm Mn] ∧ 0 ≤ i ∧ i ≤ out.length ∧ (∀ id, (mGet id Mn).getD 0 = cntC (spAt sp (out.take i.toNat)) id) ∧ m = out.length - i.toNat) out.length ⟨0, [], ⟨rfl, rfl, rfl, rfl, rfl, rfl, trivial⟩, S, by omega, by omega, fun id => rfl, by omega⟩ ?_
 clear S
 rintro m σ w1 ⟨i, Mn, hs, S, hi0, hi1, hMn, rfl⟩
 refine Z1o hs ?_
 by_cases hi : i < out.length
 ·have hx := hom _ (Z2e hi0 hi)
  have est := @Zbb sp out i hi0 hi
  have hcr := @Z92 (spAt sp (out.take i.toNat)) (nth sp (nth out i)).Contract
  rw [Z7d, List.length_take, ← hMn] at hcr
  repeat' (first | refine Z0a ?_ | refine Z02 ?_ | refine Z08 ?_ | refine Z01 ?_ | refine Z0h ?_ | refine Z0k ?_ | refine Z0f ?_ | refine Z06 rfl ?_ | refine Z04 rfl ?_ | ((refine Z00 rfl (Z12 rfl rfl ?_ ?_) ?_; (first | omega | simp <;> omega); (first | omega | simp <;> omega))) | refine Z00 rfl (Z0z rfl rfl) ?_ | refine Z00 rfl (Z1g rfl) ?_ | (first | (refine Z00 rfl (Z07 (hr2.mono S.below) rfl rfl ?_ ?_) ?_; (first | omega | simp <;> omega); (first | omega | simp <;> omega)) | (refine Z00 rfl (Z07 (S.rdRow (D := (fInt .i64)) (i := 0) rfl) rfl rfl ?_ ?_) ?_; (first | omega | simp <;> omega); (first | omega | simp <;> omega))) | (first | (refine Z00 rfl (Z0i (hr2.mono S.below) rfl ?_ ?_ rfl) ?_; (first | omega | simp <;> omega); (first | omega | simp <;> omega)) | (refine Z00 rfl (Z0i (S.rdRow (D := (fInt .i64)) (i := 0) rfl) rfl ?_ ?_ rfl) ?_; (first | omega | simp <;> omega); (first | omega | simp <;> omega))) | (refine Z00 rfl (Z3u (k := (nth sp (nth out i)).Contract) (eK := eI) (eV := eI) 0 rfl (S.mapAt (i := 1) rfl) rfl rfl) ?_) | (refine Z05 rfl (Z4v (i := 1) (eK := eI) (eV := eI) (k := (nth sp (nth out i)).Contract) (v := (mGet (nth sp (nth out i)).Contract Mn).getD 0 + 1) S rfl rfl rfl rfl) ?_; clear S; intro w S) | (refine Z0g rfl (fun h => ?_) (fun h => ?_) <;> (fail_if_success first | have := ntT h | have := ntF h) <;> (try simp only [tdyB] at h) <;> (try (exfalso; omega))))
  refine ⟨⟨_, ?_, i + 1, _, ⟨rfl, rfl, rfl, rfl, rfl, rfl, trivial⟩, S, by omega, by omega, fun id => ?_, rfl⟩⟩
  ·omega
  ·rw [est, Z8i, Z8h, ← hMn]
   by_cases e2 : id = (nth sp (nth out i)).Contract
   ·rw [if_pos e2, if_pos e2.symm, e2]; rfl
   ·rw [if_neg e2, if_neg (fun h => e2 h.symm), Int.add_zero]
 have hil : i.toNat = out.length := by omega
 rw [hil, List.take_length] at hMn
 repeat' (first | refine Z0a ?_ | refine Z02 ?_ | refine Z08 ?_ | refine Z01 ?_ | refine Z0s ?_ | refine Z15 ?_ | refine Z1b ?_ | refine Z06 rfl ?_ | refine Z00 rfl (Z0z rfl rfl) ?_ | refine Z00 rfl (Z0e rfl) ?_ | (refine Z0g rfl (fun h => ?_) (fun h => ?_) <;> (fail_if_success first | have := ntT h | have := ntF h) <;> (try simp only [tdyB] at h) <;> (try (exfalso; omega))))
 refine Z0n rfl (Z5o (D := fInt .i64) (m := l.length) 0 S rfl rfl rfl (by decide) (by omega) (by omega)) ?_
 rintro vo w ⟨b, hvo, -, S'⟩; replace S := S'; clear S'
 repeat' (first | refine Z0a ?_ | refine Z02 ?_ | refine Z08 ?_ | refine Z01 ?_ | refine Z0f ?_ | refine Z06 rfl ?_ | refine Z04 rfl ?_ | refine Z00 rfl (Z0e rfl) ?_)
 refine Z1l (fun m σ w1 => ∃ (i : Int), Has σ [(8, .map (some bm)), (11, vo), (41, .slice A l.length c), (42, .int .i64 l.length), (43, .int .i64 i)] ∧ St w0 w1 [Z2r eI eI bm Mn, Z16 (fInt .i64) 3 vo ((l.take i.toNat).map (dueC (spAt sp out)) ++ List.replicate (l.length - i.toNat) 0)] ∧ 0 ≤ i ∧ i ≤ l.length ∧ m = l.length - i.toNat) l.length ⟨0, ⟨rfl, rfl, rfl, rfl, rfl, trivial⟩, by rw [show Int.toNat 0 = 0 from rfl, List.take_zero, List.map_nil, List.nil_append, Nat.sub_zero]; exact S.keep [false, true, true], by omega, by omega, by omega⟩ ?_
 clear S hs
 rintro m σ w1 ⟨i, hs, S, hi0, hi1, rfl⟩
 refine Z1o hs ?_
 by_cases hi : i < l.length
 ·have hcr := @Z92 (spAt sp out) (nth l i).ID
  rw [Z7d] at hcr
  have hpr := Zfr (Zbd h1 (Z2e hi0 hi)) (n := cntC (spAt sp out) (nth l i).ID) (by omega)
  rw [← hMn] at hcr hpr
  have hpl : ((l.take i.toNat).map (dueC (spAt sp out)) ++ List.replicate (l.length - i.toNat) 0).length = l.length := by rw [List.length_append, List.length_map, List.length_take, List.length_replicate]; omega
  have hput := @due_put l (dueC (spAt sp out)) i hi0 hi
  repeat' (first | refine Z0a ?_ | refine Z02 ?_ | refine Z08 ?_ | refine Z01 ?_ | refine Z0k ?_ | refine Z0f ?_ | refine Z06 rfl ?_ | refine Z04 rfl ?_ | ((refine Z00 rfl (Z5f rfl rfl ?_ ?_) ?_; (first | omega | simp <;> omega); (first | omega | simp <;> omega))) | refine Z00 rfl (Z0z rfl rfl) ?_ | refine Z00 rfl (Z09 rfl) ?_ | (first | (refine Z00 rfl (Z07 (hr1.mono S.below) rfl rfl ?_ ?_) ?_; (first | omega | simp <;> omega); (first | omega | simp <;> omega)) | (refine Z00 rfl (Z07 (S.rdRow (D := (fInt .i64)) (i := 1) rfl) rfl rfl ?_ ?_) ?_; (first | omega | simp <;> omega); (first | omega | simp <;> omega))) | (first | (refine Z00 rfl (Z19 (hr1.mono S.below) rfl ?_ ?_) ?_; (first | omega | simp <;> omega); (first | omega | simp <;> omega)) | refine Z00 rfl (Z0b (i := 2) S rfl rfl rfl) ?_) | (refine Z0n rfl (Z1i S) ?_; rintro _ w ⟨b, rfl, -, S'⟩; replace S := S'; clear S') | (first | (refine Z05 rfl (Z03 (i := 0) S rfl rfl rfl rfl (dqq rfl) (dqq rfl)) ?_; clear S; intro w S) | (refine Z05 rfl (Z03 (i := 1) S rfl rfl rfl rfl (dqq rfl) (dqq rfl)) ?_; clear S; intro w S) | (refine Z05 rfl (Z03 (i := 2) S rfl rfl rfl rfl (dqq rfl) (dqq rfl)) ?_; clear S; intro w S)) | refine Z00 rfl (Z3u (k := (nth l i).ID) (eK := eI) (eV := eI) 0 rfl (S.mapAt (i := 0) rfl) rfl rfl) ?_ | (refine Z0g rfl (fun h => ?_) (fun h => ?_) <;> (fail_if_success first | have := ntT h | have := ntF h) <;> (try simp only [tdyB] at h) <;> (try (exfalso; omega))))
  refine Z05 rfl (Z29 (i := 1) (D := fInt .i64) S rfl rfl rfl rfl (fun c hc => by cases List.mem_singleton.1 hc; rfl) (by omega) (by omega)) ?_
  clear S; intro w S
  repeat' (first | refine Z02 ?_ | refine Z08 ?_ | refine Z01 ?_ | refine Z0h ?_ | refine Z06 rfl ?_ | ((refine Z00 rfl (Z12 rfl rfl ?_ ?_) ?_; (first | omega | simp <;> omega); (first | omega | simp <;> omega))))
  refine ⟨⟨_, ?_, i + 1, ⟨rfl, rfl, rfl, rfl, rfl, trivial⟩, ?_, by omega, by omega, rfl⟩⟩
  ·omega
  ·rw [← hput]
   unfold dueC
   rw [← hMn]
   exact S.keep [true, true, false]
 have hil2 : i.toNat = l.length := by omega
 rw [hil2, List.take_length, Nat.sub_self, List.replicate_zero, List.append_nil] at S
 repeat' (first | refine Z0a ?_ | refine Z02 ?_ | refine Z08 ?_ | refine Z01 ?_ | refine Z0s ?_ | refine Z15 ?_ | refine Z0r ?_ | refine Z1b ?_ | refine Z06 rfl ?_ | refine Z04 rfl ?_ | refine Z00 rfl (Z0z rfl rfl) ?_ | (refine Z0g rfl (fun h => ?_) (fun h => ?_) <;> (fail_if_success first | have := ntT h | have := ntF h) <;> (try simp only [tdyB] at h) <;> (try (exfalso; omega))))
 exact end2 rfl rfl rfl ⟨_, rfl, S.below, _, rfl, S.row (i := 1) rfl⟩

theorem Zki {n lo hi : Int} {b : Bool} {w : World} (hE : inR n lo hi = b) : CallsV Tryd.prog 69 #[.int .i64 n, .int .i64 lo, .int .i64 hi] w (.bool b) := by
 have S := St.start w
 refine CallsV.mk ?_
 refine Z0l Tryd.func69 rfl (by intro _ h; first | exact nomatch h.1 | (obtain ⟨_, h, _⟩ := h; exact nomatch h)) Tryd.ntmps69 rfl ?_
 repeat' (first | refine Z0a ?_ | refine Z02 ?_ | refine Z08 ?_ | refine Z01 ?_ | refine Z0r ?_ | (refine Z1c ?_; refine Z1p rfl ?_) | refine Z06 rfl ?_ | refine Z04 rfl ?_ | (first | refine Z0u rfl rfl ?_ | refine Z0t rfl rfl ?_) | refine Z00 rfl (Z4m rfl rfl) ?_ | (refine Z13 rfl rfl (fun h => ?_) (fun h => ?_) <;> (fail_if_success first | have := ntT h | have := ntF h) <;> (try simp only [tdyB] at h) <;> (try (exfalso; omega))))
 all_goals (refine end1 rfl rfl ⟨rb ?_, S.below⟩; subst hE; simp [inR]; try omega)
theorem Zbe {n lo hi : Int} {w : World} : CallsV Tryd.prog 69 #[.int .i64 n, .int .i64 lo, .int .i64 hi] w (.bool (inR n lo hi)) := Zki rfl
def fmP (p : GPosting) (a1 : Int) : Bool := decide (0 ≤ p.Day ∧ p.Day ≤ 359 ∧ 0 ≤ p.Debtor ∧ p.Debtor ≤ a1 ∧ 0 ≤ p.Creditor ∧ p.Creditor ≤ a1 ∧ p.Debtor ≠ p.Creditor ∧ 1 ≤ p.Amount ∧ p.Amount ≤ 1000000000000 ∧ 0 ≤ p.Subject ∧ p.Subject ≤ 999 ∧
 ((p.Kind = 1 ∨ p.Kind = 2) ∧ p.Of = -1 ∨ p.Kind = 3 ∧ 0 ≤ p.Of ∧ p.Of ≤ 199))
def bkP (p q : GPosting) : Bool := decide (q.Kind ≠ 3 ∧ p.Debtor = q.Creditor ∧ p.Creditor = q.Debtor ∧ p.Amount = q.Amount ∧ p.Subject = q.Subject)
theorem Zft {p : GPosting} {acc : Int} {w : World} : CallsV Tryd.prog 111 #[.agg p.enc.toArray, .int .i64 acc] w (.bool (fmP p (IntKind.i64.wrap (acc - 1)))) := by
 have S := St.start w
 refine CallsV.mk ?_
 refine Z0l Tryd.func111 rfl (by intro _ h; first | exact nomatch h.1 | (obtain ⟨_, h, _⟩ := h; exact nomatch h)) Tryd.ntmps111 rfl ?_
 repeat' (first | refine Z0a ?_ | refine Z02 ?_ | refine Z08 ?_ | refine Z01 ?_ | refine Z0h ?_ | refine Z0x ?_ | refine Z27 ?_ | refine Z0r ?_ | refine Z0k ?_ | refine Z0f ?_ | (refine Z1c ?_; refine Z1p rfl ?_) | refine Z06 rfl ?_ | refine Z04 rfl ?_ | (first | refine Z0u rfl rfl ?_ | refine Z0t rfl rfl ?_) | refine Z00 rfl (r_sub rfl rfl) ?_ | refine Z00 rfl (Z2k rfl rfl) ?_ | refine Z00 rfl (Z1w rfl) ?_ | refine Z00 rfl (Z09 rfl) ?_ | refine Z00 rfl (Z0b (i := 0) S rfl rfl rfl) ?_ | ((refine Z0j rfl (Z1t rfl rfl rfl rfl) (Zbe) ?_; intro w hb; replace S := S.grow hb; clear hb)) | (refine Z2g ?_; refine Z0n rfl (Z2h S rfl) ?_; rintro _ w ⟨b, rfl, -, S'⟩; replace S := S'; clear S') | (refine Z13 rfl rfl (fun h => ?_) (fun h => ?_) <;> (fail_if_success first | have := ntT h | have := ntF h) <;> (try simp only [tdyB] at h) <;> (try (exfalso; omega))) | (refine Z0g rfl (fun h => ?_) (fun h => ?_) <;> (fail_if_success first | have := ntT h | have := ntF h) <;> (try simp only [tdyB] at h) <;> (try (exfalso; omega))))
 all_goals
  refine end1 rfl rfl ⟨rb ?_, S.below⟩
  simp only [inR, decide_eq_true_eq, decide_eq_false_iff_not, Bool.not_eq_true', Bool.not_eq_false'] at *
  symm
  unfold fmP
 all_goals first
  | (rw [decide_eq_false_iff_not]; omega)
  | (rw [decide_eq_true_iff]; omega)
  | (rw [decide_eq_decide]; omega)
theorem Zkj {p q : GPosting} {w : World} : CallsV Tryd.prog 112 #[.agg p.enc.toArray, .agg q.enc.toArray] w (.bool (bkP p q)) := by
 have S := St.start w
 refine CallsV.mk ?_
 refine Z0l Tryd.func112 rfl (by intro _ h; first | exact nomatch h.1 | (obtain ⟨_, h, _⟩ := h; exact nomatch h)) Tryd.ntmps112 rfl ?_
 repeat' (first | refine Z0a ?_ | refine Z02 ?_ | refine Z08 ?_ | refine Z01 ?_ | refine Z0r ?_ | (refine Z1c ?_; refine Z1p rfl ?_) | refine Z06 rfl ?_ | refine Z04 rfl ?_ | (first | refine Z0u rfl rfl ?_ | refine Z0t rfl rfl ?_) | refine Z00 rfl (Z2k rfl rfl) ?_ | refine Z00 rfl (Z33 rfl rfl) ?_ | refine Z00 rfl (Z09 rfl) ?_ | (first | refine Z00 rfl (Z0b (i := 0) S rfl rfl rfl) ?_ | refine Z00 rfl (Z0b (i := 1) S rfl rfl rfl) ?_) | (refine Z2g ?_; refine Z0n rfl (Z2h S rfl) ?_; rintro _ w ⟨b, rfl, -, S'⟩; replace S := S'; clear S') | (refine Z13 rfl rfl (fun h => ?_) (fun h => ?_) <;> (fail_if_success first | have := ntT h | have := ntF h) <;> (try simp only [tdyB] at h) <;> (try (exfalso; omega))))
 all_goals
  refine end1 rfl rfl ⟨rb ?_, S.below⟩
  symm
  unfold bkP
 all_goals first
  | (rw [decide_eq_false_iff_not]; omega)
  | (rw [decide_eq_true_iff]; omega)
  | (rw [decide_eq_decide]; omega)

def ledC (acc : Int) (v : Value) (cl : Int) (f : Nat → Bool) : List Value := .int .i64 acc :: v :: .int .i64 cl :: (List.range 200).map fun i => .bool (f i)
theorem Zdb {acc : Int} {v : Value} {cl : Int} {f : Nat → Bool} : (ledC acc v cl f).length = 203 := by simp [ledC]
theorem Z6z {acc : Int} {v : Value} {cl : Int} {f : Nat → Bool} {i o : Nat} (h : i < 200) (ho : o = 3 + i) : (ledC acc v cl f)[o]? = some (.bool (f i)) := by
 subst ho
 unfold ledC
 rw [show 3 + i = i + 1 + 1 + 1 by omega, List.getElem?_cons_succ, List.getElem?_cons_succ, List.getElem?_cons_succ, List.getElem?_map, List.getElem?_range h]; rfl
theorem ledC_put {acc : Int} {v : Value} {cl : Int} {f : Nat → Bool} {i o : Nat} {b : Bool} (h : i < 200) (ho : o = 3 + i) : Z7l (ledC acc v cl f) o [.bool b] = ledC acc v cl (fun k => if k = i then b else f k) := by
 subst ho
 apply List.ext_getElem?
 intro k
 unfold Z7l
 have hl := @Zdb acc v cl f
 have ht : ((ledC acc v cl f).take (3 + i)).length = 3 + i := by rw [List.length_take]; omega
 by_cases h1 : k < 3 + i
 ·rw [List.append_assoc, List.getElem?_append_left (by omega), List.getElem?_take_of_lt h1]
  by_cases h3 : k < 3
  ·match k, h3 with
   | 0, _ => rfl
   | 1, _ => rfl
   | 2, _ => rfl
  ·rw [Z6z (i := k - 3) (by omega) (by omega), Z6z (i := k - 3) (by omega) (by omega), if_neg (by omega)]
 ·rw [List.append_assoc, List.getElem?_append_right (by omega), ht]
  by_cases h2 : k = 3 + i
  ·subst h2
   rw [Nat.sub_self, Z6z (i := i) h rfl, if_pos rfl]; rfl
  ·rw [show k - (3 + i) = (k - (3 + i) - 1) + 1 by omega, List.singleton_append, List.getElem?_cons_succ, List.getElem?_drop]
   by_cases h4 : k < 203
   ·rw [Z6z (i := k - 3) (by omega) (by simp; omega), Z6z (i := k - 3) (by omega) (by omega), if_neg (by omega)]
   ·rw [List.getElem?_eq_none (by simp; omega), List.getElem?_eq_none (by rw [Zdb]; omega)]
def bkN (L : List GPosting) (i : Nat) : Bool := L.any fun q => decide (q.Kind = 3 ∧ q.Of = (i : Int))
def Zel (L : List GPosting) (p : GPosting) : Bool := decide (L.length = 0 ∨ (nth L ((L.length : Int) - 1)).Day ≤ p.Day)
def Z9p (L : List GPosting) (p : GPosting) : Bool := decide (p.Kind ≠ 3) || (decide (p.Of < L.length) && (!bkN L p.Of.toNat && bkP p (nth L p.Of)))
def Z3e (a1 : Int) (L : List GPosting) (p : GPosting) : Bool := decide (L.length < 200) && (fmP p a1 && (Zel L p && Z9p L p))
theorem Zkk {p : GPosting} {a1 : Int} (h : fmP p a1 = true) : p.Kind = 3 ∧ 0 ≤ p.Of ∧ p.Of ≤ 199 ∨ p.Kind ≠ 3 := by
 have := of_decide_eq_true h
 omega
theorem Zdc {L : List GPosting} {p : GPosting} {i : Nat} : bkN (L ++ [p]) i = (bkN L i || decide (p.Kind = 3 ∧ p.Of = (i : Int))) := by
 unfold bkN; rw [List.any_append]; simp
theorem Zkl {L : List GPosting} {p : GPosting} (hk : p.Kind = 3) (h0 : 0 ≤ p.Of) : (fun k => if k = p.Of.toNat then true else bkN L k) = bkN (L ++ [p]) := by
 funext k
 rw [Zdc]
 by_cases e : k = p.Of.toNat
 ·rw [if_pos e, decide_eq_true ⟨hk, by omega⟩, Bool.or_true]
 ·rw [if_neg e, decide_eq_false (fun h => e (by omega)), Bool.or_false]
theorem Z8o {L : List GPosting} {p : GPosting} (hk : p.Kind ≠ 3) : bkN L = bkN (L ++ [p]) := by
 funext k
 rw [Zdc, decide_eq_false (fun h => hk h.1), Bool.or_false]
abbrev ledO (b : Nat) (acc : Int) (v : Value) (cl : Int) (L : List GPosting) : Ob := .var b 119 (ledC acc v cl (bkN L))
abbrev rowP (v : Value) (L : List GPosting) : Ob := Z16 Z0o 84 v L
theorem Z5s {p : GPosting} {acc : Int} {b : Bool} {w : World} (h : fmP p (IntKind.i64.wrap (acc - 1)) = b) : CallsV Tryd.prog 111 #[.agg p.enc.toArray, .int .i64 acc] w (.bool b) := by rw [← h]; exact Zft
theorem Zkm {p q : GPosting} {b : Bool} {w : World} (h : bkP p q = b) : CallsV Tryd.prog 112 #[.agg p.enc.toArray, .agg q.enc.toArray] w (.bool b) := by rw [← h]; exact Zkj
theorem Z6b : ∀ (x : GPosting), ∀ u ∈ Z0o.enc x, u.oneCell' = true := by intro x u hu; simp [Z0o, GPosting.enc] at hu; rcases hu with rfl | rfl | rfl | rfl | rfl | rfl | rfl <;> rfl
def TakeR (w0 : World) (bl : Nat) (acc cl : Int) (L : List GPosting) (p : GPosting) (v : Value) (ex : List Ob) (r : Value) (w' : World) : Prop :=
 r = .bool (Z3e (IntKind.i64.wrap (acc - 1)) L p) ∧ if Z3e (IntKind.i64.wrap (acc - 1)) L p = true then ∃ v', St w0 w' (ledO bl acc v' cl (L ++ [p]) :: rowP v' (L ++ [p]) :: ex) else St w0 w' (ledO bl acc v cl L :: rowP v L :: ex)
set_option maxHeartbeats 1000000 in
theorem Zem {bl : Nat} {acc cl : Int} {L : List GPosting} {p : GPosting} {v : Value} {ex : List Ob} {w0 w : World} (S : St w0 w (ledO bl acc v cl L :: rowP v L :: ex)) (hl : L.length ≤ 1000000000) :
  CallsW Tryd.prog 97 #[.pointer (some ⟨bl, 0, none⟩), .agg p.enc.toArray] w (TakeR w0 bl acc cl L p v ex) := by
 obtain ⟨a1, ha1⟩ : ∃ a1, IntKind.i64.wrap (acc - 1) = a1 := ⟨_, rfl⟩
 obtain ⟨A, c, hz⟩ := (S.rdRow (D := Z0o) (i := 1) rfl).len; subst hz
 have hno : ∀ {w'}, Z3e a1 L p = false → St w0 w' (ledO bl acc (.slice A L.length c) cl L :: rowP (.slice A L.length c) L :: ex) → TakeR w0 bl acc cl L p (.slice A L.length c) ex (.bool false) w' := fun h S => ⟨by rw [ha1, h], by rw [ha1, h, if_neg (by simp)]; exact S⟩
 refine CallsW.mk ?_
 refine Z0l Tryd.func97 rfl (by intro _ h; first | exact nomatch h.1 | (obtain ⟨_, h, _⟩ := h; exact nomatch h)) Tryd.ntmps97 rfl ?_
 by_cases h2 : L.length < 200
 ·cases hf : fmP p a1 with
  | false =>
   have e : Z3e a1 L p = false := by unfold Z3e; rw [hf]; simp
   repeat' (first | refine Z0a ?_ | refine Z02 ?_ | refine Z08 ?_ | refine Z01 ?_ | refine Z0x ?_ | refine Z0r ?_ | refine Z0v rfl ?_ | refine Z1s (by kernel_rfl) (by kernel_rfl) ?_ | (refine Z1q ?_; intro w hb; replace S := S.grow hb; clear hb) | refine Z06 rfl ?_ | refine Z04 rfl ?_ | refine Z00 rfl (Z1n rfl) ?_ | refine Z00 rfl (Z0e rfl) ?_ | refine Z00 rfl (Z09 rfl) ?_ | refine Z00 rfl (Z0b (i := 1) S rfl rfl rfl) ?_ | (refine Z2y ?_; refine Z5l rfl ?_) | (refine Z1e ?_; refine Z1r rfl ?_) | (refine Z2a ?_; first | refine Z2j rfl rfl ?_ | refine Z31 rfl rfl ?_) | (refine Z3k ?_; refine Z0c rfl (fun w' hb => Z2x rfl rfl) ?_) | (refine Z2q ?_; refine Z0c rfl (fun w' hb => Z1n rfl) ?_) | (refine Z4o ?_; refine Z0c rfl (fun w' hb => Z1w rfl) ?_) | (refine Z10 ?_; refine Z0c rfl (fun w' hb => Z09 rfl) ?_) | (refine Z1f ?_; first | refine Z0c rfl (fun w' hb => Z0m (i := 0) (S.grow hb) rfl rfl rfl rfl) ?_ | refine Z0c rfl (fun w' hb => Z0b (i := 1) (S.grow hb) rfl rfl rfl) ?_) | (refine Z1v ?_; refine Z20 rfl (fun w' hb => Z0w rfl rfl rfl) (fun w' hb => Z5s (ha1 ▸ hf)) ?_) | (refine Z2g ?_; refine Z0n rfl (Z2h S rfl) ?_; rintro _ w ⟨b, rfl, -, S'⟩; replace S := S'.front; clear S') | (refine Z21 rfl rfl (fun h => ?_) (fun h => ?_) <;> (fail_if_success first | have := ntT h | have := ntF h) <;> (try simp only [tdyB] at h) <;> (try (exfalso; omega)) <;> (try (exfalso; omega; done))))
   exact end1 rfl rfl ⟨_, rfl, hno e S.tail⟩
  | true =>
  cases hd : Zel L p with
  | false =>
   have e : Z3e a1 L p = false := by unfold Z3e; rw [hd]; simp
   have hd' := of_decide_eq_false hd
   repeat' (first | refine Z0a ?_ | refine Z02 ?_ | refine Z08 ?_ | refine Z01 ?_ | refine Z0x ?_ | refine Z0r ?_ | refine Z1s (by kernel_rfl) (by kernel_rfl) ?_ | (refine Z1q ?_; intro w hb; replace S := S.grow hb; clear hb) | refine Z06 rfl ?_ | refine Z04 rfl ?_ | refine Z00 rfl (Z1n rfl) ?_ | refine Z00 rfl (Z0e rfl) ?_ | refine Z00 rfl (Z09 rfl) ?_ | refine Z00 rfl (Z0b (i := 1) S rfl rfl rfl) ?_ | (refine Z1e ?_; refine Z1r rfl ?_) | (refine Z2a ?_; first | refine Z2j rfl rfl ?_ | refine Z31 rfl rfl ?_) | (refine Z2f ?_; (refine Z0c rfl (fun w' hb => Z24 rfl rfl ?_ ?_) ?_; (first | omega | simp <;> omega); (first | omega | simp <;> omega))) | (refine Z2l ?_; refine Z0c rfl (fun w' hb => Z0z rfl rfl) ?_) | (refine Z2w ?_; refine Z0c rfl (fun w' hb => Z2o rfl rfl) ?_) | (refine Z3k ?_; refine Z0c rfl (fun w' hb => Z2x rfl rfl) ?_) | (refine Z2q ?_; refine Z0c rfl (fun w' hb => Z1n rfl) ?_) | (refine Z4o ?_; refine Z0c rfl (fun w' hb => Z1w rfl) ?_) | (refine Z10 ?_; first | refine Z0c rfl (fun w' hb => Z09 rfl) ?_ | refine Z0c rfl (fun w' hb => Z1g rfl) ?_) | (refine Z0q ?_; (refine Z0c rfl (fun w' hb => Z07 ((S.grow hb).rdRow (D := Z0o) (i := 2) rfl) rfl rfl ?_ ?_) ?_; (first | omega | simp <;> omega); (first | omega | simp <;> omega))) | (refine Z1f ?_; first | (refine Z0c rfl (fun w' hb => Z11 ((S.grow hb).rdRow (D := Z0o) (i := 2) rfl) rfl ?_ ?_ rfl) ?_; (first | omega | simp <;> omega); (first | omega | simp <;> omega)) | refine Z0c rfl (fun w' hb => Z0b (i := 0) (S.grow hb) rfl rfl rfl) ?_ | refine Z0c rfl (fun w' hb => Z0m (i := 0) (S.grow hb) rfl rfl rfl rfl) ?_ | refine Z0c rfl (fun w' hb => Z0b (i := 1) (S.grow hb) rfl rfl rfl) ?_) | (refine Z1v ?_; refine Z20 rfl (fun w' hb => Z0w rfl rfl rfl) (fun w' hb => Z5s (ha1 ▸ hf)) ?_) | (refine Z2g ?_; refine Z0n rfl (Z2h S rfl) ?_; rintro _ w ⟨b, rfl, -, S'⟩; replace S := S'.front; clear S') | (refine Z21 rfl rfl (fun h => ?_) (fun h => ?_) <;> (fail_if_success first | have := ntT h | have := ntF h) <;> (try simp only [tdyB] at h) <;> (try (exfalso; omega)) <;> (try (exfalso; omega; done))) | (refine Z0g rfl (fun h => ?_) (fun h => ?_) <;> (fail_if_success first | have := ntT h | have := ntF h) <;> (try simp only [tdyB] at h) <;> (try (exfalso; omega)) <;> (try (exfalso; omega; done))))
   exact end1 rfl rfl ⟨_, rfl, hno e S.tail⟩
  | true =>
  have hd' := of_decide_eq_true hd
  by_cases hk : p.Kind = 3
  ·have hkn : decide (p.Kind ≠ 3) = false := decide_eq_false (fun h => h hk)
   have hof : 0 ≤ p.Of ∧ p.Of ≤ 199 := by have := Zkk hf; omega
   by_cases ho : p.Of < L.length
   ·cases hb : bkN L p.Of.toNat with
    | true =>
     have e : Z3e a1 L p = false := by unfold Z3e Z9p; rw [hb, hkn]; simp
     repeat' (first | refine Z0a ?_ | refine Z02 ?_ | refine Z08 ?_ | refine Z01 ?_ | refine Z0x ?_ | refine Z0r ?_ | refine Z0k ?_ | refine Z0v rfl ?_ | refine Z1s (by kernel_rfl) (by kernel_rfl) ?_ | (refine Z1q ?_; intro w hb; replace S := S.grow hb; clear hb) | refine Z06 rfl ?_ | refine Z04 rfl ?_ | refine Z00 rfl (Z2k rfl rfl) ?_ | refine Z00 rfl (Z1n rfl) ?_ | refine Z00 rfl (Z0e rfl) ?_ | refine Z00 rfl (Z09 rfl) ?_ | (first | refine Z00 rfl (Z0b (i := 0) S rfl rfl rfl) ?_ | refine Z00 rfl (Z0b (i := 1) S rfl rfl rfl) ?_) | (refine Z2y ?_; refine Z5l rfl ?_) | (refine Z1e ?_; refine Z1r rfl ?_) | (refine Z2a ?_; first | refine Z2j rfl rfl ?_ | refine Z31 rfl rfl ?_) | (refine Z2f ?_; (refine Z0c rfl (fun w' hb => Z24 rfl rfl ?_ ?_) ?_; (first | omega | simp <;> omega); (first | omega | simp <;> omega))) | (refine Z2l ?_; refine Z0c rfl (fun w' hb => Z0z rfl rfl) ?_) | (refine Z2w ?_; refine Z0c rfl (fun w' hb => Z2o rfl rfl) ?_) | (refine Z3k ?_; refine Z0c rfl (fun w' hb => Z2x rfl rfl) ?_) | (refine Z2q ?_; refine Z0c rfl (fun w' hb => Z1n rfl) ?_) | (refine Z4o ?_; refine Z0c rfl (fun w' hb => Z1w rfl) ?_) | (refine Z10 ?_; first | refine Z0c rfl (fun w' hb => Z09 rfl) ?_ | refine Z0c rfl (fun w' hb => Z1g rfl) ?_) | (refine Z0q ?_; first | (refine Z0c rfl (fun w' hb => Z07 ((S.grow hb).rdRow (D := Z0o) (i := 2) rfl) rfl rfl ?_ ?_) ?_; (first | omega | simp <;> omega); (first | omega | simp <;> omega)) | (refine Z0c rfl (fun w' hb => Z1a rfl rfl ?_ ?_) ?_; (first | omega | simp <;> omega); (first | omega | simp <;> omega))) | (refine Z1f ?_; first | (refine Z0c rfl (fun w' hb => Z11 ((S.grow hb).rdRow (D := Z0o) (i := 2) rfl) rfl ?_ ?_ rfl) ?_; (first | omega | simp <;> omega); (first | omega | simp <;> omega)) | refine Z0c rfl (fun w' hb => Z0b (i := 0) (S.grow hb) rfl rfl rfl) ?_ | refine Z0c rfl (fun w' hb => Z0m (i := 0) (S.grow hb) rfl rfl rfl rfl) ?_ | refine Z0c rfl (fun w' hb => Z0b (i := 1) (S.grow hb) rfl rfl rfl) ?_) | (refine Z1v ?_; refine Z20 rfl (fun w' hb => Z0w rfl rfl rfl) (fun w' hb => Z5s (ha1 ▸ hf)) ?_) | (refine Z2g ?_; refine Z0n rfl (Z2h S rfl) ?_; rintro _ w ⟨b, rfl, -, S'⟩; replace S := S'.front; clear S') | refine Z0c rfl (fun w' hgr => Z0b (i := 1) (u := .bool true) (S.grow hgr) rfl rfl (by rw [Z6z (i := p.Of.toNat) (by omega) (by omega), hb])) ?_ | (refine Z21 rfl rfl (fun h => ?_) (fun h => ?_) <;> (fail_if_success first | have := ntT h | have := ntF h) <;> (try simp only [tdyB] at h) <;> (try (exfalso; omega)) <;> (try (exfalso; omega; done))) | (refine Z0g rfl (fun h => ?_) (fun h => ?_) <;> (fail_if_success first | have := ntT h | have := ntF h) <;> (try simp only [tdyB] at h) <;> (try (exfalso; omega)) <;> (try (exfalso; omega; done))))
     exact end1 rfl rfl ⟨_, rfl, hno e S.tail⟩
    | false =>
     cases hbk : bkP p (nth L p.Of) with
     | false =>
      have e : Z3e a1 L p = false := by unfold Z3e Z9p; rw [hbk, hkn]; simp
      repeat' (first | refine Z0a ?_ | refine Z02 ?_ | refine Z08 ?_ | refine Z01 ?_ | refine Z0x ?_ | refine Z0r ?_ | refine Z0k ?_ | refine Z0v rfl ?_ | refine Z1s (by kernel_rfl) (by kernel_rfl) ?_ | (refine Z1q ?_; intro w hb; replace S := S.grow hb; clear hb) | refine Z06 rfl ?_ | refine Z04 rfl ?_ | refine Z00 rfl (Z2k rfl rfl) ?_ | refine Z00 rfl (Z1n rfl) ?_ | refine Z00 rfl (Z0e rfl) ?_ | refine Z00 rfl (Z09 rfl) ?_ | (first | refine Z00 rfl (Z0b (i := 0) S rfl rfl rfl) ?_ | refine Z00 rfl (Z0b (i := 1) S rfl rfl rfl) ?_) | (refine Z1e ?_; refine Z1r rfl ?_) | (refine Z2a ?_; first | refine Z2j rfl rfl ?_ | refine Z31 rfl rfl ?_) | (refine Z2f ?_; (refine Z0c rfl (fun w' hb => Z24 rfl rfl ?_ ?_) ?_; (first | omega | simp <;> omega); (first | omega | simp <;> omega))) | (refine Z2l ?_; refine Z0c rfl (fun w' hb => Z0z rfl rfl) ?_) | (refine Z2w ?_; refine Z0c rfl (fun w' hb => Z2o rfl rfl) ?_) | (refine Z3k ?_; refine Z0c rfl (fun w' hb => Z2x rfl rfl) ?_) | (refine Z2q ?_; refine Z0c rfl (fun w' hb => Z1n rfl) ?_) | (refine Z4o ?_; refine Z0c rfl (fun w' hb => Z1w rfl) ?_) | (refine Z10 ?_; first | refine Z0c rfl (fun w' hb => Z09 rfl) ?_ | refine Z0c rfl (fun w' hb => Z1g rfl) ?_) | (refine Z0q ?_; first | (refine Z0c rfl (fun w' hb => Z07 ((S.grow hb).rdRow (D := Z0o) (i := 2) rfl) rfl rfl ?_ ?_) ?_; (first | omega | simp <;> omega); (first | omega | simp <;> omega)) | (refine Z0c rfl (fun w' hb => Z1a rfl rfl ?_ ?_) ?_; (first | omega | simp <;> omega); (first | omega | simp <;> omega))) | (refine Z1f ?_; first | (refine Z0c rfl (fun w' hb => Z19 ((S.grow hb).rdRow (D := Z0o) (i := 2) rfl) rfl ?_ ?_) ?_; (first | omega | simp <;> omega); (first | omega | simp <;> omega)) | (refine Z0c rfl (fun w' hb => Z11 ((S.grow hb).rdRow (D := Z0o) (i := 2) rfl) rfl ?_ ?_ rfl) ?_; (first | omega | simp <;> omega); (first | omega | simp <;> omega)) | refine Z0c rfl (fun w' hb => Z0b (i := 0) (S.grow hb) rfl rfl rfl) ?_ | refine Z0c rfl (fun w' hb => Z0m (i := 0) (S.grow hb) rfl rfl rfl rfl) ?_ | refine Z0c rfl (fun w' hb => Z0b (i := 1) (S.grow hb) rfl rfl rfl) ?_) | (refine Z1v ?_; first | refine Z20 rfl (fun w' hb => Z0w rfl rfl rfl) (fun w' hb => Z5s (ha1 ▸ hf)) ?_ | refine Z20 rfl (fun w' hb => Z0w rfl rfl rfl) (fun w' hb => Zkm hbk) ?_) | (refine Z2g ?_; refine Z0n rfl (Z2h S rfl) ?_; rintro _ w ⟨b, rfl, -, S'⟩; replace S := S'.front; clear S') | refine Z0c rfl (fun w' hgr => Z0b (i := 1) (u := .bool false) (S.grow hgr) rfl rfl (by rw [Z6z (i := p.Of.toNat) (by omega) (by omega), hb])) ?_ | (refine Z21 rfl rfl (fun h => ?_) (fun h => ?_) <;> (fail_if_success first | have := ntT h | have := ntF h) <;> (try simp only [tdyB] at h) <;> (try (exfalso; omega)) <;> (try (exfalso; omega; done))) | (refine Z0g rfl (fun h => ?_) (fun h => ?_) <;> (fail_if_success first | have := ntT h | have := ntF h) <;> (try simp only [tdyB] at h) <;> (try (exfalso; omega)) <;> (try (exfalso; omega; done))))
      exact end1 rfl rfl ⟨_, rfl, hno e S.tail⟩
     | true =>
      have hE : Z3e a1 L p = true := by unfold Z3e Z9p; rw [hf, hd, hbk, hb, decide_eq_true h2, decide_eq_true ho]; simp
      repeat' (first | refine Z0a ?_ | refine Z02 ?_ | refine Z08 ?_ | refine Z01 ?_ | refine Z0k ?_ | refine Z18 rfl ?_ | refine Z28 6 (by kernel_rfl) (by decide +kernel) ?_ | refine Z1s (by kernel_rfl) (by kernel_rfl) ?_ | (refine Z1q ?_; intro w hb; replace S := S.grow hb; clear hb) | refine Z06 rfl ?_ | refine Z04 rfl ?_ | refine Z00 rfl (Z2k rfl rfl) ?_ | refine Z00 rfl (Z1n rfl) ?_ | refine Z00 rfl (Z0e rfl) ?_ | refine Z00 rfl (Z09 rfl) ?_ | (first | refine Z00 rfl (Z0b (i := 0) S rfl rfl rfl) ?_ | refine Z00 rfl (Z0b (i := 1) S rfl rfl rfl) ?_) | (refine Z1e ?_; refine Z1r rfl ?_) | (refine Z2a ?_; first | refine Z2j rfl rfl ?_ | refine Z31 rfl rfl ?_) | (refine Z2f ?_; (refine Z0c rfl (fun w' hb => Z24 rfl rfl ?_ ?_) ?_; (first | omega | simp <;> omega); (first | omega | simp <;> omega))) | (refine Z2l ?_; refine Z0c rfl (fun w' hb => Z0z rfl rfl) ?_) | (refine Z2w ?_; refine Z0c rfl (fun w' hb => Z2o rfl rfl) ?_) | (refine Z3k ?_; refine Z0c rfl (fun w' hb => Z2x rfl rfl) ?_) | (refine Z2q ?_; refine Z0c rfl (fun w' hb => Z1n rfl) ?_) | (refine Z4o ?_; refine Z0c rfl (fun w' hb => Z1w rfl) ?_) | (refine Z10 ?_; first | refine Z0c rfl (fun w' hb => Z09 rfl) ?_ | refine Z0c rfl (fun w' hb => Z1g rfl) ?_) | (refine Z0q ?_; first | (refine Z0c rfl (fun w' hb => Z07 ((S.grow hb).rdRow (D := Z0o) (i := 2) rfl) rfl rfl ?_ ?_) ?_; (first | omega | simp <;> omega); (first | omega | simp <;> omega)) | (refine Z0c rfl (fun w' hb => Z1a rfl rfl ?_ ?_) ?_; (first | omega | simp <;> omega); (first | omega | simp <;> omega))) | (refine Z1f ?_; first | (refine Z0c rfl (fun w' hb => Z19 ((S.grow hb).rdRow (D := Z0o) (i := 2) rfl) rfl ?_ ?_) ?_; (first | omega | simp <;> omega); (first | omega | simp <;> omega)) | (refine Z0c rfl (fun w' hb => Z11 ((S.grow hb).rdRow (D := Z0o) (i := 2) rfl) rfl ?_ ?_ rfl) ?_; (first | omega | simp <;> omega); (first | omega | simp <;> omega)) | refine Z0c rfl (fun w' hb => Z0b (i := 0) (S.grow hb) rfl rfl rfl) ?_ | refine Z0c rfl (fun w' hb => Z0m (i := 0) (S.grow hb) rfl rfl rfl rfl) ?_ | refine Z0c rfl (fun w' hb => Z0b (i := 1) (S.grow hb) rfl rfl rfl) ?_) | (refine Z1v ?_; first | refine Z20 rfl (fun w' hb => Z0w rfl rfl rfl) (fun w' hb => Z5s (ha1 ▸ hf)) ?_ | refine Z20 rfl (fun w' hb => Z0w rfl rfl rfl) (fun w' hb => Zkm hbk) ?_) | (refine Z2g ?_; refine Z0n rfl (Z2h S rfl) ?_; rintro _ w ⟨b, rfl, -, S'⟩; replace S := S'.front; clear S') | refine Z0c rfl (fun w' hgr => Z0b (i := 1) (u := .bool false) (S.grow hgr) rfl rfl (by rw [Z6z (i := p.Of.toNat) (by omega) (by omega), hb])) ?_ | (refine Z21 rfl rfl (fun h => ?_) (fun h => ?_) <;> (fail_if_success first | have := ntT h | have := ntF h) <;> (try simp only [tdyB] at h) <;> (try (exfalso; omega)) <;> (try (exfalso; omega; done))) | (refine Z0g rfl (fun h => ?_) (fun h => ?_) <;> (fail_if_success first | have := ntT h | have := ntF h) <;> (try simp only [tdyB] at h) <;> (try (exfalso; omega)) <;> (try (exfalso; omega; done))))
      refine Z05 rfl (Z03 (i := 1) (size := 1) S rfl rfl rfl rfl (by rw [Zdb]; omega) (dqq rfl)) ?_
      intro w S'
      have S2 : St w0 w (.var b 84 p.enc :: .var bl 119 (Z7l (ledC acc (.slice A L.length c) cl (bkN L)) (3 + p.Of.toNat * 1) [.bool true]) :: rowP (.slice A L.length c) L :: ex) := S'
      rw [ledC_put (i := p.Of.toNat) (by omega) (by omega), Zkl hk hof.1] at S2
      clear S S'
      have S := S2
      clear S2
      repeat' (first | refine Z0a ?_ | refine Z02 ?_ | refine Z08 ?_ | refine Z01 ?_ | refine Z0r ?_ | (refine Z79 (fun w' => St w0 w' [.var b 84 p.enc, .var bl 119 (ledC acc (.slice A L.length c) cl (bkN (L ++ [p])))]) [0,1,2,3,4,5,6] [7,8] [9,10,11,12] (by kernel_rfl) (by decide) (by decide +kernel) (fun w' hb => (S.grow hb).keep [true, true]) ?_; intro w hb; replace S := S.grow hb; clear hb) | refine Z1z ?_ | refine Z7r ?_ | refine Z04 rfl ?_ | refine Z00 rfl (Z1n rfl) ?_ | refine Z00 rfl (Z09 rfl) ?_ | (refine Z3i ?_; refine Z0p rfl (fun w' hJ => ⟨rfl⟩) ?_) | (refine Z2n ?_; refine Z0p rfl (fun w' hJ => ⟨rfl⟩) ?_) | (refine Z43 ?_; refine Z0p rfl (fun w' hJ => Z1n rfl) ?_) | (refine Z30 ?_; refine Z0p rfl (fun w' hJ => Z09 rfl) ?_) | (refine Z5b ?_; first | refine Z0p rfl (fun w' hJ => Z0m (i := 0) hJ rfl rfl rfl rfl) ?_ | refine Z0p rfl (fun w' hJ => Z0b (i := 1) hJ rfl rfl rfl) ?_) | (first | (refine Z05 rfl (Z03 (i := 0) S rfl rfl rfl rfl (dqq rfl) (dqq rfl)) ?_; clear S; intro w S) | (refine Z05 rfl (Z03 (i := 1) S rfl rfl rfl rfl (dqq rfl) (dqq rfl)) ?_; clear S; intro w S)) | (refine Z6s rfl (Z2z (D := Z0o) [p] (fun y => .agg y.enc.toArray) S rfl rfl (fun _ => rfl) rfl (by decide) (by decide)) ?_; rintro _ w ⟨bq, rfl, -, hcl, S'⟩; refine ⟨S'.keep [true, true], ?_⟩; replace S := S'; clear S') | (refine Z6s rfl (Z2t (D := Z0o) (i := 2) (b := bq) (x := p) S rfl rfl rfl (Z53 hcl) rfl (by decide) (Z6b p) (by omega) (by omega)) ?_; rintro v2 w ⟨-, S'⟩; refine ⟨S'.keep [true, true], ?_⟩; replace S := S'; clear S' hcl; obtain ⟨A2, c2, hz⟩ := (S.rdRow (D := Z0o) (i := 2) rfl).len; subst hz))
      all_goals exact end1 rfl rfl ⟨_, rfl, by rw [ha1, hE]; rfl, by rw [ha1, hE, if_pos rfl]; exact ⟨_, S.tail.drop_last⟩⟩
   ·have e : Z3e a1 L p = false := by unfold Z3e Z9p; rw [decide_eq_false ho, hkn]; simp
    repeat' (first | refine Z0a ?_ | refine Z02 ?_ | refine Z08 ?_ | refine Z01 ?_ | refine Z0x ?_ | refine Z0r ?_ | refine Z0k ?_ | refine Z0v rfl ?_ | refine Z18 rfl ?_ | refine Z1s (by kernel_rfl) (by kernel_rfl) ?_ | (refine Z1q ?_; intro w hb; replace S := S.grow hb; clear hb) | refine Z06 rfl ?_ | refine Z04 rfl ?_ | refine Z00 rfl (Z2k rfl rfl) ?_ | refine Z00 rfl (Z1n rfl) ?_ | refine Z00 rfl (Z0e rfl) ?_ | refine Z00 rfl (Z09 rfl) ?_ | (first | refine Z00 rfl (Z0b (i := 0) S rfl rfl rfl) ?_ | refine Z00 rfl (Z0b (i := 1) S rfl rfl rfl) ?_) | (refine Z2y ?_; refine Z5l rfl ?_) | (refine Z1e ?_; refine Z1r rfl ?_) | (refine Z2a ?_; first | refine Z2j rfl rfl ?_ | refine Z31 rfl rfl ?_) | (refine Z2f ?_; (refine Z0c rfl (fun w' hb => Z24 rfl rfl ?_ ?_) ?_; (first | omega | simp <;> omega); (first | omega | simp <;> omega))) | (refine Z2l ?_; refine Z0c rfl (fun w' hb => Z0z rfl rfl) ?_) | (refine Z2w ?_; refine Z0c rfl (fun w' hb => Z2o rfl rfl) ?_) | (refine Z3k ?_; refine Z0c rfl (fun w' hb => Z2x rfl rfl) ?_) | (refine Z2q ?_; refine Z0c rfl (fun w' hb => Z1n rfl) ?_) | (refine Z4o ?_; refine Z0c rfl (fun w' hb => Z1w rfl) ?_) | (refine Z10 ?_; first | refine Z0c rfl (fun w' hb => Z09 rfl) ?_ | refine Z0c rfl (fun w' hb => Z1g rfl) ?_) | (refine Z0q ?_; (refine Z0c rfl (fun w' hb => Z07 ((S.grow hb).rdRow (D := Z0o) (i := 2) rfl) rfl rfl ?_ ?_) ?_; (first | omega | simp <;> omega); (first | omega | simp <;> omega))) | (refine Z1f ?_; first | (refine Z0c rfl (fun w' hb => Z11 ((S.grow hb).rdRow (D := Z0o) (i := 2) rfl) rfl ?_ ?_ rfl) ?_; (first | omega | simp <;> omega); (first | omega | simp <;> omega)) | refine Z0c rfl (fun w' hb => Z0b (i := 0) (S.grow hb) rfl rfl rfl) ?_ | refine Z0c rfl (fun w' hb => Z0m (i := 0) (S.grow hb) rfl rfl rfl rfl) ?_ | refine Z0c rfl (fun w' hb => Z0b (i := 1) (S.grow hb) rfl rfl rfl) ?_) | (refine Z1v ?_; refine Z20 rfl (fun w' hb => Z0w rfl rfl rfl) (fun w' hb => Z5s (ha1 ▸ hf)) ?_) | (refine Z2g ?_; refine Z0n rfl (Z2h S rfl) ?_; rintro _ w ⟨b, rfl, -, S'⟩; replace S := S'.front; clear S') | (refine Z21 rfl rfl (fun h => ?_) (fun h => ?_) <;> (fail_if_success first | have := ntT h | have := ntF h) <;> (try simp only [tdyB] at h) <;> (try (exfalso; omega)) <;> (try (exfalso; omega; done))) | (refine Z0g rfl (fun h => ?_) (fun h => ?_) <;> (fail_if_success first | have := ntT h | have := ntF h) <;> (try simp only [tdyB] at h) <;> (try (exfalso; omega)) <;> (try (exfalso; omega; done))))
    all_goals exact end1 rfl rfl ⟨_, rfl, hno e S.tail⟩
  ·have hE : Z3e a1 L p = true := by unfold Z3e Z9p; rw [hf, hd, decide_eq_true h2, decide_eq_true (show p.Kind ≠ 3 from hk)]; rfl
   have hbe := @Z8o L p hk
   repeat' (first | refine Z0a ?_ | refine Z02 ?_ | refine Z08 ?_ | refine Z01 ?_ | refine Z0r ?_ | refine Z0k ?_ | refine Z18 rfl ?_ | (refine Z79 (fun w' => St w0 w' [.var b 84 p.enc, .var bl 119 (ledC acc (.slice A L.length c) cl (bkN L))]) [0,1,2,3,4,5,6] [7,8] [9,10,11,12] (by kernel_rfl) (by decide) (by decide +kernel) (fun w' hb => (S.grow hb).keep [true, true]) ?_; intro w hb; replace S := S.grow hb; clear hb) | refine Z1s (by kernel_rfl) (by kernel_rfl) ?_ | (refine Z1q ?_; intro w hb; replace S := S.grow hb; clear hb) | refine Z1z ?_ | refine Z7r ?_ | refine Z06 rfl ?_ | refine Z04 rfl ?_ | refine Z00 rfl (Z2k rfl rfl) ?_ | refine Z00 rfl (Z1n rfl) ?_ | refine Z00 rfl (Z0e rfl) ?_ | refine Z00 rfl (Z09 rfl) ?_ | (first | refine Z00 rfl (Z0b (i := 0) S rfl rfl rfl) ?_ | refine Z00 rfl (Z0b (i := 1) S rfl rfl rfl) ?_) | (refine Z2y ?_; refine Z5l rfl ?_) | (refine Z1e ?_; refine Z1r rfl ?_) | (refine Z2a ?_; first | refine Z2j rfl rfl ?_ | refine Z31 rfl rfl ?_) | (refine Z2f ?_; (refine Z0c rfl (fun w' hb => Z24 rfl rfl ?_ ?_) ?_; (first | omega | simp <;> omega); (first | omega | simp <;> omega))) | (refine Z2l ?_; refine Z0c rfl (fun w' hb => Z0z rfl rfl) ?_) | (refine Z2w ?_; refine Z0c rfl (fun w' hb => Z2o rfl rfl) ?_) | (refine Z3k ?_; refine Z0c rfl (fun w' hb => Z2x rfl rfl) ?_) | (refine Z2q ?_; refine Z0c rfl (fun w' hb => Z1n rfl) ?_) | (refine Z4o ?_; refine Z0c rfl (fun w' hb => Z1w rfl) ?_) | (refine Z10 ?_; first | refine Z0c rfl (fun w' hb => Z09 rfl) ?_ | refine Z0c rfl (fun w' hb => Z1g rfl) ?_) | (refine Z0q ?_; (refine Z0c rfl (fun w' hb => Z07 ((S.grow hb).rdRow (D := Z0o) (i := 2) rfl) rfl rfl ?_ ?_) ?_; (first | omega | simp <;> omega); (first | omega | simp <;> omega))) | (refine Z1f ?_; first | (refine Z0c rfl (fun w' hb => Z11 ((S.grow hb).rdRow (D := Z0o) (i := 2) rfl) rfl ?_ ?_ rfl) ?_; (first | omega | simp <;> omega); (first | omega | simp <;> omega)) | refine Z0c rfl (fun w' hb => Z0b (i := 0) (S.grow hb) rfl rfl rfl) ?_ | refine Z0c rfl (fun w' hb => Z0m (i := 0) (S.grow hb) rfl rfl rfl rfl) ?_ | refine Z0c rfl (fun w' hb => Z0b (i := 1) (S.grow hb) rfl rfl rfl) ?_) | (refine Z1v ?_; refine Z20 rfl (fun w' hb => Z0w rfl rfl rfl) (fun w' hb => Z5s (ha1 ▸ hf)) ?_) | (refine Z3i ?_; refine Z0p rfl (fun w' hJ => ⟨rfl⟩) ?_) | (refine Z2n ?_; refine Z0p rfl (fun w' hJ => ⟨rfl⟩) ?_) | (refine Z43 ?_; refine Z0p rfl (fun w' hJ => Z1n rfl) ?_) | (refine Z30 ?_; refine Z0p rfl (fun w' hJ => Z09 rfl) ?_) | (refine Z5b ?_; first | refine Z0p rfl (fun w' hJ => Z0m (i := 0) hJ rfl rfl rfl rfl) ?_ | refine Z0p rfl (fun w' hJ => Z0b (i := 1) hJ rfl rfl rfl) ?_) | (refine Z2g ?_; refine Z0n rfl (Z2h S rfl) ?_; rintro _ w ⟨b, rfl, -, S'⟩; replace S := S'.front; clear S') | (first | (refine Z05 rfl (Z03 (i := 0) S rfl rfl rfl rfl (dqq rfl) (dqq rfl)) ?_; clear S; intro w S) | (refine Z05 rfl (Z03 (i := 1) S rfl rfl rfl rfl (dqq rfl) (dqq rfl)) ?_; clear S; intro w S)) | (refine Z6s rfl (Z2z (D := Z0o) [p] (fun y => .agg y.enc.toArray) S rfl rfl (fun _ => rfl) rfl (by decide) (by decide)) ?_; rintro _ w ⟨bq, rfl, -, hcl, S'⟩; refine ⟨S'.keep [true, true], ?_⟩; replace S := S'; clear S') | (refine Z6s rfl (Z2t (D := Z0o) (i := 2) (b := bq) (x := p) S rfl rfl rfl (Z53 hcl) rfl (by decide) (Z6b p) (by omega) (by omega)) ?_; rintro v2 w ⟨-, S'⟩; refine ⟨S'.keep [true, true], ?_⟩; replace S := S'; clear S' hcl; obtain ⟨A2, c2, hz⟩ := (S.rdRow (D := Z0o) (i := 2) rfl).len; subst hz) | (refine Z21 rfl rfl (fun h => ?_) (fun h => ?_) <;> (fail_if_success first | have := ntT h | have := ntF h) <;> (try simp only [tdyB] at h) <;> (try (exfalso; omega)) <;> (try (exfalso; omega; done))) | (refine Z0g rfl (fun h => ?_) (fun h => ?_) <;> (fail_if_success first | have := ntT h | have := ntF h) <;> (try simp only [tdyB] at h) <;> (try (exfalso; omega)) <;> (try (exfalso; omega; done))))
   all_goals
    rw [hbe] at S
    exact end1 rfl rfl ⟨_, rfl, by rw [ha1, hE]; rfl, by rw [ha1, hE, if_pos rfl]; exact ⟨_, S.tail.drop_last⟩⟩
 ·have e : Z3e a1 L p = false := by unfold Z3e; rw [decide_eq_false h2]; rfl
  repeat' (first | refine Z0a ?_ | refine Z02 ?_ | refine Z08 ?_ | refine Z01 ?_ | refine Z0x ?_ | refine Z0r ?_ | refine Z0v rfl ?_ | refine Z1s (by kernel_rfl) (by kernel_rfl) ?_ | (refine Z1q ?_; intro w hb; replace S := S.grow hb; clear hb) | refine Z06 rfl ?_ | refine Z04 rfl ?_ | refine Z00 rfl (Z1n rfl) ?_ | refine Z00 rfl (Z0e rfl) ?_ | refine Z00 rfl (Z09 rfl) ?_ | refine Z00 rfl (Z0b (i := 1) S rfl rfl rfl) ?_ | (refine Z2y ?_; refine Z5l rfl ?_) | (refine Z1e ?_; refine Z1r rfl ?_) | (refine Z2a ?_; refine Z2j rfl rfl ?_) | (refine Z3k ?_; refine Z0c rfl (fun w' hb => Z2x rfl rfl) ?_) | (refine Z2g ?_; refine Z0n rfl (Z2h S rfl) ?_; rintro _ w ⟨b, rfl, -, S'⟩; replace S := S'.front; clear S') | (refine Z21 rfl rfl (fun h => ?_) (fun h => ?_) <;> (fail_if_success first | have := ntT h | have := ntF h) <;> (try simp only [tdyB] at h) <;> (try (exfalso; omega)) <;> (try (exfalso; omega; done))))
  exact end1 rfl rfl ⟨_, rfl, hno e S.tail⟩

def allT (a1 : Int) (L : List GPosting) : Bool := (List.range L.length).all fun i => Z3e a1 (L.take i) (nth L (i : Int))
theorem Zkn {a1 : Int} {L : List GPosting} (h : ∀ j : Int, 0 ≤ j → j < L.length → Z3e a1 (L.take j.toNat) (nth L j) = true) : allT a1 L = true := by
 unfold allT
 rw [List.all_eq_true]
 intro k hk
 have := h k (by omega) (by have := List.mem_range.1 hk; omega)
 rwa [Int.toNat_natCast] at this
theorem Zdd {a1 : Int} {L : List GPosting} (h : allT a1 L = true) {j : Int} (h0 : 0 ≤ j) (hj : j < L.length) : Z3e a1 (L.take j.toNat) (nth L j) = true := by
 unfold allT at h
 rw [List.all_eq_true] at h
 have := h j.toNat (List.mem_range.2 (by omega))
 rwa [show ((j.toNat : Nat) : Int) = j by omega] at this
theorem Zko {a1 : Int} {L : List GPosting} {j : Int} (h0 : 0 ≤ j) (hj : j < L.length) (h : Z3e a1 (L.take j.toNat) (nth L j) = false) : allT a1 L = false := by
 cases e : allT a1 L with
 | false => rfl
 | true => rw [Zdd e h0 hj] at h; cases h
abbrev bkV (acc : Int) (v : Value) (cl : Int) : List Value := [.int .i64 acc, v, .int .i64 cl]
def okAC (acc cl : Int) : Bool := inR acc 2 16 && inR cl 0 12
def Zi9 (w0 : World) (acc cl : Int) (L : List GPosting) (r : Value) (w' : World) : Prop :=
 if allT (IntKind.i64.wrap (acc - 1)) L = true then ∃ (bl : Nat) (v' : Value), r = .tuple #[.pointer (some ⟨bl, 0, none⟩), .bool (okAC acc cl)] ∧ St w0 w' [ledO bl acc v' cl L, rowP v' L] else r = .tuple #[.pointer none, .bool false]
theorem bdLed {ρ : Operand → Value} {w : World} {d : Option Tmp} {ty : TypeId} {pos : String} {af : Array Edge} {g : Option (Nat × Bool)} {a0 : Operand} {acc cl : Int} (h0 : ρ a0 = .agg #[.int .i64 acc, .slice none 0 0, .int .i64 cl]) :
  Go.Gx.Runs Tryd.prog ρ ⟨d, .build 119 #[(0, a0)], ty, pos, af, g⟩ w (.ok (.value (.agg (ledC acc (.slice none 0 0) cl (bkN [])).toArray)) w) := ⟨by
 have e : (Instr.build 119 #[(0, .agg #[.int .i64 acc, .slice none 0 0, .int .i64 cl])]).run Tryd.prog w = .ok (.agg (ledC acc (.slice none 0 0) cl (bkN [])).toArray) w := by kernel_rfl
 simp only [execOp, List.map_toArray, List.map_cons, List.map_nil, h0]
 exact run_bind e⟩
set_option maxHeartbeats 1000000 in
theorem Zde {acc cl : Int} {L : List GPosting} {v : Value} {w0 : World} (hr : Rd Z0o.ty w0 v L) (hl : L.length ≤ 1000000000) :
  CallsR Tryd.prog 68 #[.agg (bkV acc v cl).toArray] w0 (Zi9 w0 acc cl L) := by
 have S := St.start w0
 obtain ⟨a1, ha1⟩ : ∃ a1, IntKind.i64.wrap (acc - 1) = a1 := ⟨_, rfl⟩
 obtain ⟨A, c, rfl⟩ := hr.len
 refine CallsR.mk ?_
 refine Z0l Tryd.func68 rfl (by intro _ h; first | exact nomatch h.1 | (obtain ⟨_, h, _⟩ := h; exact nomatch h)) Tryd.ntmps68 rfl ?_
 repeat' (first | refine Z0a ?_ | refine Z02 ?_ | refine Z08 ?_ | refine Z01 ?_ | refine Z04 rfl ?_ | refine Z00 rfl (Zge rfl rfl) ?_ | refine Z00 rfl (Z09 rfl) ?_ | refine Z00 rfl (Z0b (i := 0) S rfl rfl rfl) ?_ | (refine Z2g ?_; refine Z0n rfl (Z2h S rfl) ?_; rintro _ w ⟨b, rfl, -, S'⟩; replace S := S'; clear S'))
 refine Z00 rfl (bdLed rfl) ?_
 repeat' (first | refine Z0a ?_ | refine Z02 ?_ | refine Z08 ?_ | refine Z01 ?_ | refine Z0f ?_ | refine Z06 rfl ?_ | refine Z04 rfl ?_ | refine Z00 rfl (Z0e rfl) ?_ | refine Z00 rfl (Z09 rfl) ?_ | refine Z00 rfl (Z0b (i := 0) S rfl rfl rfl) ?_ | (refine Z2g ?_; refine Z0n rfl (Z2h S rfl) ?_; rintro _ w ⟨b, rfl, -, S'⟩; replace S := S'; clear S'))
 rename_i _ b1
 obtain ⟨bl, rfl⟩ : ∃ x, x = b := ⟨_, rfl⟩
 replace S := S.nilRow Z0o 84
 replace S : St w0 w [ledO bl acc (.slice none 0 0) cl [], rowP (.slice none 0 0) [], .var b1 27 (bkV acc (.slice A L.length c) cl)] := S.perm (List.perm_append_comm (l₁ := [_]) (l₂ := [_, _]))
 refine Z1l (fun m σ w1 => ∃ (i : Int) (v' : Value), Has σ [(1, .pointer (some ⟨b1, 0, none⟩)), (4, .pointer (some ⟨bl, 0, none⟩)), (15, .slice A L.length c), (16, .int .i64 L.length), (17, .int .i64 i)] ∧ St w0 w1 [ledO bl acc v' cl (L.take i.toNat), rowP v' (L.take i.toNat), .var b1 27 (bkV acc (.slice A L.length c) cl)] ∧ 0 ≤ i ∧ i ≤ L.length ∧ (∀ j : Int, 0 ≤ j → j < i → Z3e a1 (L.take j.toNat) (nth L j) = true) ∧ m = L.length - i.toNat) L.length ⟨0, .slice none 0 0, ⟨rfl, rfl, rfl, rfl, rfl, trivial⟩, S, by omega, by omega, fun j p q => by omega, by omega⟩ ?_
 clear S
 rintro m σ w1 ⟨i, v', hs, S, hi0, hi1, hall, rfl⟩
 refine Z1o hs ?_
 by_cases hi : i < L.length
 ·have htl : (L.take i.toNat).length ≤ 1000000000 := by rw [List.length_take]; omega
  repeat' (first | refine Z0a ?_ | refine Z02 ?_ | refine Z08 ?_ | refine Z01 ?_ | refine Z0k ?_ | refine Z0f ?_ | refine Z06 rfl ?_ | refine Z00 rfl (Z0z rfl rfl) ?_ | ((refine Z00 rfl (Z07 (hr.mono S.below) rfl rfl ?_ ?_) ?_; (first | omega | simp <;> omega); (first | omega | simp <;> omega))) | (first | (refine Z00 rfl (Z19 (hr.mono S.below) rfl ?_ ?_) ?_; (first | omega | simp <;> omega); (first | omega | simp <;> omega)) | refine Z00 rfl (Z0m (i := 3) S rfl rfl rfl rfl) ?_) | (refine Z0n rfl (Z1i S) ?_; rintro _ w ⟨b, rfl, -, S'⟩; replace S := S'; clear S') | (first | (refine Z05 rfl (Z03 (i := 0) S rfl rfl rfl rfl (dqq rfl) (dqq rfl)) ?_; clear S; intro w S) | (refine Z05 rfl (Z03 (i := 1) S rfl rfl rfl rfl (dqq rfl) (dqq rfl)) ?_; clear S; intro w S) | (refine Z05 rfl (Z03 (i := 2) S rfl rfl rfl rfl (dqq rfl) (dqq rfl)) ?_; clear S; intro w S) | (refine Z05 rfl (Z03 (i := 3) S rfl rfl rfl rfl (dqq rfl) (dqq rfl)) ?_; clear S; intro w S)) | (refine Z0g rfl (fun h => ?_) (fun h => ?_) <;> (fail_if_success first | have := ntT h | have := ntF h) <;> (try simp only [tdyB] at h) <;> (try (exfalso; omega))))
  refine Z35 rfl (Z0w rfl rfl rfl) (Zem (p := nth L i) S htl) ?_
  rintro _ w ⟨rfl, hS⟩
  rw [ha1] at hS ⊢
  cases ht : Z3e a1 (L.take i.toNat) (nth L i) with
  | false =>
   rw [ht, if_neg (by simp)] at hS
   have S := hS
   repeat' (first | refine Z0a ?_ | refine Z02 ?_ | refine Z08 ?_ | refine Z01 ?_ | refine Z0x ?_ | refine Z27 ?_ | refine Z0r ?_ | refine Z0v rfl ?_ | refine Z04 rfl ?_ | refine Z00 rfl (Z1w rfl) ?_)
   exact end2 rfl rfl rfl ⟨_, rfl, S.below, by unfold Zi9; rw [ha1, Zko hi0 hi ht, if_neg (by simp)]; rfl⟩
  | true =>
   rw [ht, if_pos rfl] at hS
   obtain ⟨v2, S⟩ := hS
   have et : L.take i.toNat ++ [nth L i] = L.take (i + 1).toNat := by
    rw [show (i + 1).toNat = i.toNat + 1 by omega, List.take_add_one, Z1u hi0 hi]; rfl
   rw [et] at S
   repeat' (first | refine Z02 ?_ | refine Z08 ?_ | refine Z01 ?_ | refine Z0h ?_ | refine Z0k ?_ | refine Z18 rfl ?_ | refine Z06 rfl ?_ | ((refine Z00 rfl (Z12 rfl rfl ?_ ?_) ?_; (first | omega | simp <;> omega); (first | omega | simp <;> omega))) | refine Z00 rfl (Z1w rfl) ?_)
   refine ⟨⟨_, ?_, i + 1, v2, ⟨rfl, rfl, rfl, rfl, rfl, trivial⟩, S.keep [true, true, true], by omega, by omega, fun j p q => ?_, rfl⟩⟩
   ·omega
   ·by_cases e : j = i
    ·subst e; exact ht
    ·exact hall j p (by omega)
 have hil : i.toNat = L.length := by omega
 rw [hil, List.take_length] at S
 have hT : allT a1 L = true := Zkn fun j p q => hall j p (by omega)
 repeat' (first | refine Z0a ?_ | refine Z02 ?_ | refine Z08 ?_ | refine Z01 ?_ | refine Z0s ?_ | refine Z15 ?_ | refine Z0r ?_ | refine Z1b ?_ | (refine Z1c ?_; refine Z1p rfl ?_) | refine Z06 rfl ?_ | refine Z04 rfl ?_ | (first | refine Z0u rfl rfl ?_ | refine Z0t rfl rfl ?_) | refine Z00 rfl (Z0z rfl rfl) ?_ | refine Z00 rfl (Z09 rfl) ?_ | refine Z00 rfl (Z0b (i := 2) S rfl rfl rfl) ?_ | ((refine Z0j rfl (Z1t rfl rfl rfl rfl) (Zbe) ?_; intro w hb; replace S := S.grow hb; clear hb)) | (refine Z13 rfl rfl (fun h => ?_) (fun h => ?_) <;> (fail_if_success first | have := ntT h | have := ntF h) <;> (try simp only [tdyB] at h) <;> (try (exfalso; omega))) | (refine Z0g rfl (fun h => ?_) (fun h => ?_) <;> (fail_if_success first | have := ntT h | have := ntF h) <;> (try simp only [tdyB] at h) <;> (try (exfalso; omega))))
 all_goals
  refine end2 rfl rfl rfl ⟨_, rfl, S.below, ?_⟩
  unfold Zi9
  rw [ha1, hT, if_pos rfl]
  refine ⟨bl, v', ?_, S.keep [true, true]⟩
  unfold okAC
  rw [h]
  rfl

def Z2d (acc cl : Int) (L : List GPosting) : Bool := allT (IntKind.i64.wrap (acc - 1)) L && okAC acc cl
theorem Z95 {acc cl : Int} {L : List GPosting} {b : Bool} {v : Value} {w0 : World} (hb : Z2d acc cl L = b) (hr : Rd Z0o.ty w0 v L) (hl : L.length ≤ 1000000000) :
  CallsV Tryd.prog 54 #[.agg (bkV acc v cl).toArray] w0 (.bool b) := by
 have S := St.start w0
 refine CallsV.mk ?_
 refine Z0l Tryd.func54 rfl (by intro _ h; first | exact nomatch h.1 | (obtain ⟨_, h, _⟩ := h; exact nomatch h)) Tryd.ntmps54 rfl ?_
 repeat' (first | refine Z0a ?_ | refine Z02 ?_ | refine Z08 ?_ | refine Z01 ?_ | refine Z04 rfl ?_ | refine Z00 rfl (Z0m (i := 0) S rfl rfl rfl rfl) ?_ | (refine Z2g ?_; refine Z0n rfl (Z2h S rfl) ?_; rintro _ w ⟨b, rfl, -, S'⟩; replace S := S'; clear S'))
 refine Z25 rfl (Z1h rfl rfl) (Zde (acc := acc) (cl := cl) (hr.mono S.below) hl) ?_
 rintro r w hb' hR
 unfold Zi9 at hR
 unfold Z2d at hb
 cases hT : allT (IntKind.i64.wrap (acc - 1)) L with
 | false =>
  rw [hT, if_neg (by simp)] at hR
  subst hR
  have S := S.grow hb'
  rw [hT, Bool.false_and] at hb
  subst hb
  repeat' (first | refine Z0a ?_ | refine Z02 ?_ | refine Z08 ?_ | refine Z01 ?_ | refine Z0r ?_ | refine Z06 rfl ?_ | refine Z04 rfl ?_ | refine Z00 rfl (Z0y rfl rfl) ?_)
  exact end1 rfl rfl ⟨rfl, S.below⟩
 | true =>
  rw [hT, if_pos rfl] at hR
  obtain ⟨bl, v', rfl, S'⟩ := hR
  have S := S.join S'
  rw [hT, Bool.true_and] at hb
  subst hb
  repeat' (first | refine Z0a ?_ | refine Z02 ?_ | refine Z08 ?_ | refine Z01 ?_ | refine Z0r ?_ | refine Z06 rfl ?_ | refine Z04 rfl ?_ | refine Z00 rfl (Z0y rfl rfl) ?_)
  exact end1 rfl rfl ⟨rfl, S.below⟩
def Z5d (a1 cl : Int) (L : List GPosting) (p : GPosting) : Bool := decide (30 * cl ≤ p.Day) && Z3e a1 L p
def PostR (w0 : World) (bl : Nat) (acc cl : Int) (L : List GPosting) (p : GPosting) (v : Value) (ex : List Ob) (r : Value) (w' : World) : Prop :=
 r = .bool (Z5d (IntKind.i64.wrap (acc - 1)) cl L p) ∧ if Z5d (IntKind.i64.wrap (acc - 1)) cl L p = true then ∃ v', St w0 w' (ledO bl acc v' cl (L ++ [p]) :: rowP v' (L ++ [p]) :: ex) else St w0 w' (ledO bl acc v cl L :: rowP v L :: ex)
theorem Zdf {bl : Nat} {acc cl : Int} {L : List GPosting} {p : GPosting} {v : Value} {ex : List Ob} {w0 w : World} (S : St w0 w (ledO bl acc v cl L :: rowP v L :: ex)) (hl : L.length ≤ 1000000000) (hcl : 0 ≤ cl ∧ cl ≤ 12) :
  CallsW Tryd.prog 108 #[.pointer (some ⟨bl, 0, none⟩), .agg p.enc.toArray] w (PostR w0 bl acc cl L p v ex) := by
 obtain ⟨a1, ha1⟩ : ∃ a1, IntKind.i64.wrap (acc - 1) = a1 := ⟨_, rfl⟩
 refine CallsW.mk ?_
 refine Z0l Tryd.func108 rfl (by intro _ h; first | exact nomatch h.1 | (obtain ⟨_, h, _⟩ := h; exact nomatch h)) Tryd.ntmps108 rfl ?_
 by_cases hd : 30 * cl ≤ p.Day
 ·repeat' (first | refine Z0a ?_ | refine Z02 ?_ | refine Z08 ?_ | refine Z01 ?_ | refine Z28 12 (by kernel_rfl) (by decide +kernel) ?_ | (refine Z1q ?_; intro w hb; replace S := S.grow hb; clear hb) | refine Z04 rfl ?_ | (refine Z1e ?_; refine Z1r rfl ?_) | (refine Z75 ?_; (refine Z0c rfl (fun w' hb => Z5f rfl rfl ?_ ?_) ?_; (first | omega | simp <;> omega); (first | omega | simp <;> omega))) | (refine Z3k ?_; refine Z0c rfl (fun w' hb => Z2x rfl rfl) ?_) | (refine Z2q ?_; refine Z0c rfl (fun w' hb => Z1n rfl) ?_) | (refine Z10 ?_; refine Z0c rfl (fun w' hb => Z09 rfl) ?_) | (refine Z1f ?_; first | refine Z0c rfl (fun w' hb => Z0b (i := 0) (S.grow hb) rfl rfl rfl) ?_ | refine Z0c rfl (fun w' hb => Z0m (i := 0) (S.grow hb) rfl rfl rfl rfl) ?_ | refine Z0c rfl (fun w' hb => Z0b (i := 1) (S.grow hb) rfl rfl rfl) ?_) | (refine Z2g ?_; refine Z0n rfl (Z2h S rfl) ?_; rintro _ w ⟨b, rfl, -, S'⟩; replace S := S'.front; clear S') | (refine Z21 rfl rfl (fun h => ?_) (fun h => ?_) <;> (fail_if_success first | have := ntT h | have := ntF h) <;> (try simp only [tdyB] at h) <;> (try (exfalso; omega)) <;> (try (exfalso; omega; done))))
  have S2 : St w0 w (ledO bl acc v cl L :: rowP v L :: .var b 84 p.enc :: ex) := S.perm (List.perm_middle (l₁ := [_, _])).symm
  refine Z35 rfl (Z0w rfl rfl rfl) (Zem (p := p) (ex := .var b 84 p.enc :: ex) S2 hl) ?_
  clear S S2
  rintro _ w ⟨rfl, hS⟩
  rw [ha1] at hS ⊢
  cases ht : Z3e a1 L p with
  | false =>
   rw [ht, if_neg (by simp)] at hS
   have e : Z5d a1 cl L p = false := by unfold Z5d; rw [ht, Bool.and_false]
   repeat' (first | refine Z08 ?_ | refine Z01 ?_ | refine Z0r ?_ | refine Z04 rfl ?_ | refine Z0u rfl rfl ?_)
   exact end1 rfl rfl ⟨_, rfl, by rw [ha1, e]; rfl, by rw [ha1, e, if_neg (by simp)]; exact (hS.perm (List.perm_middle (l₁ := [_, _]))).tail⟩
  | true =>
   rw [ht, if_pos rfl] at hS
   obtain ⟨v', hS⟩ := hS
   have e : Z5d a1 cl L p = true := by unfold Z5d; rw [ht, decide_eq_true hd]; rfl
   repeat' (first | refine Z08 ?_ | refine Z01 ?_ | refine Z0r ?_ | refine Z04 rfl ?_ | refine Z0u rfl rfl ?_)
   exact end1 rfl rfl ⟨_, rfl, by rw [ha1, e]; rfl, by rw [ha1, e, if_pos rfl]; exact ⟨v', (hS.perm (List.perm_middle (l₁ := [_, _]))).tail⟩⟩
 ·have e : Z5d a1 cl L p = false := by unfold Z5d; rw [decide_eq_false hd]; rfl
  repeat' (first | refine Z0a ?_ | refine Z02 ?_ | refine Z08 ?_ | refine Z01 ?_ | refine Z0r ?_ | refine Z28 12 (by kernel_rfl) (by decide +kernel) ?_ | (refine Z1q ?_; intro w hb; replace S := S.grow hb; clear hb) | (refine Z1c ?_; refine Z1p rfl ?_) | refine Z04 rfl ?_ | refine Z0t rfl rfl ?_ | (refine Z2y ?_; refine Z5l rfl ?_) | (refine Z1e ?_; refine Z1r rfl ?_) | (refine Z75 ?_; (refine Z0c rfl (fun w' hb => Z5f rfl rfl ?_ ?_) ?_; (first | omega | simp <;> omega); (first | omega | simp <;> omega))) | (refine Z3k ?_; refine Z0c rfl (fun w' hb => Z2x rfl rfl) ?_) | (refine Z2q ?_; refine Z0c rfl (fun w' hb => Z1n rfl) ?_) | (refine Z10 ?_; refine Z0c rfl (fun w' hb => Z09 rfl) ?_) | (refine Z1f ?_; first | refine Z0c rfl (fun w' hb => Z0b (i := 0) (S.grow hb) rfl rfl rfl) ?_ | refine Z0c rfl (fun w' hb => Z0b (i := 1) (S.grow hb) rfl rfl rfl) ?_) | (refine Z2g ?_; refine Z0n rfl (Z2h S rfl) ?_; rintro _ w ⟨b, rfl, -, S'⟩; replace S := S'.front; clear S') | (refine Z21 rfl rfl (fun h => ?_) (fun h => ?_) <;> (fail_if_success first | have := ntT h | have := ntF h) <;> (try simp only [tdyB] at h) <;> (try (exfalso; omega)) <;> (try (exfalso; omega; done))))
  exact end1 rfl rfl ⟨_, rfl, by rw [ha1, e]; rfl, by rw [ha1, e, if_neg (by simp)]; exact S.tail⟩

theorem Z9j {P : Program} {fn : Func} {n : Nat} {R : Ending → World → Prop} {σ : Nat → Value} {w0 w : World} {t u x T sz b i : Nat} {os : List Ob} {T' : TypeId} {cs : List Value} {v2 v3 : Value} [hT : TF P T true sz]
  (hr : fn.results = #[.cell t T, .tmp u, .tmp x]) (hv : cut n σ t = .pointer (some ⟨b, 0, none⟩)) (hv2 : cut n σ u = v2) (hv3 : cut n σ x = v3) (S : St w0 w os) (hi : os[i]? = some (.var b T' cs)) (hl : cs.length = sz) (h : R (.returned (.tuple #[.agg cs.toArray, v2, v3])) w) : endQ P fn n R .ret σ w := by
 refine endC ?_ h
 unfold results
 rw [hr]
 refine (run_bind (Zhs (b := .agg cs.toArray) (b2 := v2) (b3 := v3) (w1 := w) (w2 := w) (w3 := w) ?_ ?_ ?_)).trans rfl
 ·show (do loadVar T (← asAddr ((Go.Gx.Fr n σ).tmps.getD t undef)) : Sem Value).run P w = _
  rw [Z4p, hv]
  exact Zga S hi hl
 ·show (pure ((Go.Gx.Fr n σ).tmps.getD u undef) : Sem Value).run P w = _
  rw [Z4p, hv2]; rfl
 ·show (pure ((Go.Gx.Fr n σ).tmps.getD x undef) : Sem Value).run P w = _
  rw [Z4p, hv3]; rfl
def BkR (w0 : World) (acc cl : Int) (L : List GPosting) (rest : List Value) (r : Value) (w' : World) : Prop := ∃ v', r = .tuple (.agg (bkV acc v' cl).toArray :: rest).toArray ∧ St w0 w' [rowP v' L]
def Z3a (acc cl : Int) (L : List GPosting) (p : GPosting) : Bool := Z2d acc cl L && Z5d (IntKind.i64.wrap (acc - 1)) cl L p
def Z5x (w0 : World) (acc cl : Int) (L : List GPosting) (p : GPosting) (r : Value) (w' : World) : Prop :=
 if Z3a acc cl L p = true then BkR w0 acc cl (L ++ [p]) [.int .i64 L.length, .int .i64 0] r w' else r = .tuple #[.agg (bkV 0 (.slice none 0 0) 0).toArray, .int .i64 0, .int .i64 240]
set_option maxHeartbeats 1000000 in
theorem Zkp {acc cl : Int} {L : List GPosting} {p : GPosting} {v : Value} {w0 : World} (hr : Rd Z0o.ty w0 v L) (hl : L.length ≤ 1000000000) :
  CallsR Tryd.prog 87 #[.agg (bkV acc v cl).toArray, .agg p.enc.toArray] w0 (Z5x w0 acc cl L p) := by
 have S := St.start w0
 obtain ⟨A, c, rfl⟩ := hr.len
 refine CallsR.mk ?_
 refine Z0l Tryd.func87 rfl (by intro _ h; first | exact nomatch h.1 | (obtain ⟨_, h, _⟩ := h; exact nomatch h)) Tryd.ntmps87 rfl ?_
 repeat' (first | refine Z0a ?_ | refine Z02 ?_ | refine Z08 ?_ | refine Z01 ?_ | refine Z04 rfl ?_ | refine Z00 rfl (Z0m (i := 0) S rfl rfl rfl rfl) ?_ | (refine Z2g ?_; refine Z0n rfl (Z2h S rfl) ?_; rintro _ w ⟨b, rfl, -, S'⟩; replace S := S'; clear S') | (refine Z0n rfl (Z1i S) ?_; rintro _ w ⟨b, rfl, -, S'⟩; replace S := S'; clear S'))
 rename_i _ b2 _ b3
 obtain ⟨b4, rfl⟩ : ∃ x, x = b := ⟨_, rfl⟩
 replace S : St w0 w [.var b2 27 (bkV acc (.slice A L.length c) cl), .var b3 84 p.enc, .var b4 27 (bkV 0 (.slice none 0 0) 0)] := S
 refine Z25 rfl (Z1h rfl rfl) (Zde (acc := acc) (cl := cl) (hr.mono S.below) hl) ?_
 rintro r w hb' hR
 unfold Zi9 at hR
 have hno : ∀ {r w'}, Z3a acc cl L p = false → r = .tuple #[.agg (bkV 0 (.slice none 0 0) 0).toArray, .int .i64 0, .int .i64 240] → Z5x w0 acc cl L p r w' := fun h e => by unfold Z5x; rw [h, if_neg (by simp)]; exact e
 cases hT : allT (IntKind.i64.wrap (acc - 1)) L with
 | false =>
  rw [hT, if_neg (by simp)] at hR
  subst hR
  replace S := S.grow hb'
  have e : Z3a acc cl L p = false := by unfold Z3a Z2d; rw [hT]; rfl
  repeat' (first | refine Z0a ?_ | refine Z02 ?_ | refine Z08 ?_ | refine Z01 ?_ | refine Z0x ?_ | refine Z0r ?_ | refine Z0v rfl ?_ | (refine Z1c ?_; refine Z1p rfl ?_) | refine Z06 rfl ?_ | refine Z04 rfl ?_ | refine Z0u rfl rfl ?_ | refine Z00 rfl (Z59 ) ?_ | refine Z00 rfl (Z1w rfl) ?_ | refine Z00 rfl (Z0y rfl rfl) ?_ | (first | (refine Z05 rfl (Z03 (i := 0) S rfl rfl rfl rfl (dqq rfl) (dqq rfl)) ?_; clear S; intro w S) | (refine Z05 rfl (Z03 (i := 1) S rfl rfl rfl rfl (dqq rfl) (dqq rfl)) ?_; clear S; intro w S) | (refine Z05 rfl (Z03 (i := 2) S rfl rfl rfl rfl (dqq rfl) (dqq rfl)) ?_; clear S; intro w S)))
  exact Z9j rfl rfl rfl rfl S (i := 2) rfl rfl ⟨_, rfl, S.below, hno e rfl⟩
 | true =>
  rw [hT, if_pos rfl] at hR
  obtain ⟨bl, v', rfl, S'⟩ := hR
  replace S := S.join S'
  clear S'
  cases hA : okAC acc cl with
  | false =>
   have e : Z3a acc cl L p = false := by unfold Z3a Z2d; rw [hA]; simp
   repeat' (first | refine Z0a ?_ | refine Z02 ?_ | refine Z08 ?_ | refine Z01 ?_ | refine Z0x ?_ | refine Z0r ?_ | refine Z0v rfl ?_ | (refine Z1c ?_; refine Z1p rfl ?_) | refine Z06 rfl ?_ | refine Z04 rfl ?_ | refine Z0u rfl rfl ?_ | refine Z00 rfl (Z59 ) ?_ | refine Z00 rfl (Z1w rfl) ?_ | refine Z00 rfl (Z0y rfl rfl) ?_ | (first | (refine Z05 rfl (Z03 (i := 0) S rfl rfl rfl rfl (dqq rfl) (dqq rfl)) ?_; clear S; intro w S) | (refine Z05 rfl (Z03 (i := 1) S rfl rfl rfl rfl (dqq rfl) (dqq rfl)) ?_; clear S; intro w S) | (refine Z05 rfl (Z03 (i := 2) S rfl rfl rfl rfl (dqq rfl) (dqq rfl)) ?_; clear S; intro w S)))
   exact Z9j rfl rfl rfl rfl S (i := 2) rfl rfl ⟨_, rfl, S.below, hno e rfl⟩
  | true =>
   have hclr : 0 ≤ cl ∧ cl ≤ 12 := by unfold okAC at hA; rw [Bool.and_eq_true] at hA; exact of_decide_eq_true hA.2
   replace S : St w0 w (ledO bl acc v' cl L :: rowP v' L :: [.var b2 27 (bkV acc (.slice A L.length c) cl), .var b3 84 p.enc, .var b4 27 (bkV 0 (.slice none 0 0) 0)]) := S.perm (List.perm_append_comm (l₁ := [_, _, _]) (l₂ := [_, _]))
   repeat' (first | refine Z0a ?_ | refine Z02 ?_ | refine Z08 ?_ | refine Z01 ?_ | refine Z06 rfl ?_ | refine Z04 rfl ?_ | refine Z00 rfl (Z1w rfl) ?_ | refine Z00 rfl (Z0y rfl rfl) ?_ | refine Z00 rfl (Z0m (i := 3) S rfl rfl rfl rfl) ?_)
   refine Z35 rfl (Z0w rfl rfl rfl) (Zdf (p := p) S hl hclr) ?_
   clear S
   rintro _ w ⟨rfl, hS⟩
   cases ht : Z5d (IntKind.i64.wrap (acc - 1)) cl L p with
   | false =>
    rw [ht, if_neg (by simp)] at hS
    have S := hS
    have e : Z3a acc cl L p = false := by unfold Z3a; rw [ht, Bool.and_false]
    repeat' (first | refine Z0a ?_ | refine Z02 ?_ | refine Z08 ?_ | refine Z01 ?_ | refine Z0x ?_ | refine Z0r ?_ | refine Z0v rfl ?_ | refine Z04 rfl ?_ | refine Z0t rfl rfl ?_ | refine Z00 rfl (Z59 ) ?_ | refine Z00 rfl (Z1w rfl) ?_ | (first | (refine Z05 rfl (Z03 (i := 0) S rfl rfl rfl rfl (dqq rfl) (dqq rfl)) ?_; clear S; intro w S) | (refine Z05 rfl (Z03 (i := 1) S rfl rfl rfl rfl (dqq rfl) (dqq rfl)) ?_; clear S; intro w S) | (refine Z05 rfl (Z03 (i := 2) S rfl rfl rfl rfl (dqq rfl) (dqq rfl)) ?_; clear S; intro w S) | (refine Z05 rfl (Z03 (i := 3) S rfl rfl rfl rfl (dqq rfl) (dqq rfl)) ?_; clear S; intro w S) | (refine Z05 rfl (Z03 (i := 4) S rfl rfl rfl rfl (dqq rfl) (dqq rfl)) ?_; clear S; intro w S)))
    exact Z9j rfl rfl rfl rfl S (i := 4) rfl rfl ⟨_, rfl, S.below, hno e rfl⟩
   | true =>
    rw [ht, if_pos rfl] at hS
    obtain ⟨v2, S⟩ := hS
    obtain ⟨A2, c2, hz⟩ := (S.rdRow (D := Z0o) (i := 1) rfl).len; subst hz
    have e : Z3a acc cl L p = true := by unfold Z3a Z2d; rw [ht, hT, hA]; rfl
    repeat' (first | refine Z0a ?_ | refine Z08 ?_ | refine Z01 ?_ | refine Z0r ?_ | refine Z0k ?_ | refine Z18 rfl ?_ | (refine Z79 (fun w' => St w0 w' [ledO bl acc (.slice A2 (L ++ [p]).length c2) cl (L ++ [p]), rowP (.slice A2 (L ++ [p]).length c2) (L ++ [p]), .var b2 27 (bkV acc (.slice A L.length c) cl)]) [0,1,2,3,4,5,6] [7] [8,9] (by kernel_rfl) (by decide) (by decide +kernel) (fun w' hb => (S.grow hb).keep [true, true, true]) ?_; intro w hb; replace S := S.grow hb; clear hb) | refine Z1z ?_ | refine Z7r ?_ | refine Z04 rfl ?_ | refine Z0t rfl rfl ?_ | refine Z00 rfl (Z1w rfl) ?_ | (refine Z3i ?_; refine Z0p rfl (fun w' hJ => ⟨rfl⟩) ?_) | (refine Z2n ?_; refine Z0p rfl (fun w' hJ => ⟨rfl⟩) ?_) | (refine Z43 ?_; refine Z0p rfl (fun w' hJ => Z1n rfl) ?_) | (refine Zcu ?_; refine Z0p rfl (fun w' hJ => Z0e rfl) ?_) | (refine Z30 ?_; refine Z0p rfl (fun w' hJ => Z09 rfl) ?_) | (refine Z5b ?_; first | refine Z0p rfl (fun w' hJ => Z0m (i := 0) hJ rfl rfl rfl rfl) ?_ | refine Z0p rfl (fun w' hJ => Z0b (i := 2) hJ rfl rfl rfl) ?_) | (refine Z6f rfl (Z03 (i := 4) S rfl rfl rfl rfl (dqq rfl) (dqq rfl)) ?_; intro w S'; refine ⟨S'.keep [true, true, true], ?_⟩; replace S := S'; clear S'))
    refine Z9j rfl rfl rfl rfl S (i := 4) rfl rfl ⟨_, rfl, S.below, ?_⟩
    unfold Z5x
    rw [e, if_pos rfl]
    exact ⟨_, rfl, S.keep [false, true]⟩

def Z4n (L : List GPosting) (i day : Int) : GPosting := ⟨3, day, (nth L i).Creditor, (nth L i).Debtor, (nth L i).Amount, (nth L i).Subject, i⟩
def newP (L : List GPosting) (i day amount : Int) : GPosting := ⟨(nth L i).Kind, day, (nth L i).Debtor, (nth L i).Creditor, amount, (nth L i).Subject, (nth L i).Of⟩
def argD (L : List GPosting) (i amount : Int) : Bool := decide (0 ≤ i ∧ i < L.length ∧ 0 ≤ amount ∧ amount ≤ 1000000000000)
def Z38 (acc cl : Int) (L : List GPosting) (i day amount : Int) : Bool :=
 Z2d acc cl L && (argD L i amount && (Z5d (IntKind.i64.wrap (acc - 1)) cl L (Z4n L i day) && (decide (amount ≤ 0) || Z5d (IntKind.i64.wrap (acc - 1)) cl (L ++ [Z4n L i day]) (newP L i day amount))))
def Z70 (L : List GPosting) (i day amount : Int) : List GPosting := if 0 < amount then L ++ [Z4n L i day] ++ [newP L i day amount] else L ++ [Z4n L i day]
def Z96 (w0 : World) (acc cl : Int) (L : List GPosting) (i day amount : Int) (r : Value) (w' : World) : Prop :=
 if Z38 acc cl L i day amount = true then BkR w0 acc cl (Z70 L i day amount) [.int .i64 0] r w' else r = .tuple #[.agg (bkV 0 (.slice none 0 0) 0).toArray, .int .i64 240]
set_option maxHeartbeats 2000000 in
theorem disp_run {acc cl i day amount : Int} {L : List GPosting} {v : Value} {w0 : World} (hr : Rd Z0o.ty w0 v L) (hl : L.length ≤ 1000000000) :
  CallsR Tryd.prog 86 #[.agg (bkV acc v cl).toArray, .int .i64 i, .int .i64 day, .int .i64 amount] w0 (Z96 w0 acc cl L i day amount) := by
 have S := St.start w0
 obtain ⟨A, c, rfl⟩ := hr.len
 refine CallsR.mk ?_
 refine Z0l Tryd.func86 rfl (by intro _ h; first | exact nomatch h.1 | (obtain ⟨_, h, _⟩ := h; exact nomatch h)) Tryd.ntmps86 rfl ?_
 repeat' (first | refine Z0a ?_ | refine Z02 ?_ | refine Z08 ?_ | refine Z01 ?_ | refine Z04 rfl ?_ | refine Z00 rfl (Z0m (i := 0) S rfl rfl rfl rfl) ?_ | (refine Z2g ?_; refine Z0n rfl (Z2h S rfl) ?_; rintro _ w ⟨b, rfl, -, S'⟩; replace S := S'; clear S') | (refine Z0n rfl (Z1i S) ?_; rintro _ w ⟨b, rfl, -, S'⟩; replace S := S'; clear S'))
 rename_i _ b4
 obtain ⟨b8, rfl⟩ : ∃ x, x = b := ⟨_, rfl⟩
 replace S : St w0 w [.var b4 27 (bkV acc (.slice A L.length c) cl), .var b8 27 (bkV 0 (.slice none 0 0) 0)] := S
 refine Z25 rfl (Z1h rfl rfl) (Zde (acc := acc) (cl := cl) (hr.mono S.below) hl) ?_
 rintro r w hb' hR
 unfold Zi9 at hR
 have hno : ∀ {r w'}, Z38 acc cl L i day amount = false → r = .tuple #[.agg (bkV 0 (.slice none 0 0) 0).toArray, .int .i64 240] → Z96 w0 acc cl L i day amount r w' := fun h e => by unfold Z96; rw [h, if_neg (by simp)]; exact e
 cases hT : allT (IntKind.i64.wrap (acc - 1)) L with
 | false =>
  rw [hT, if_neg (by simp)] at hR
  subst hR
  replace S := S.grow hb'
  have e : Z38 acc cl L i day amount = false := by unfold Z38 Z2d; rw [hT]; rfl
  repeat' (first | refine Z0a ?_ | refine Z02 ?_ | refine Z08 ?_ | refine Z01 ?_ | refine Z0x ?_ | refine Z0r ?_ | refine Z0v rfl ?_ | (refine Z1c ?_; refine Z1p rfl ?_) | refine Z06 rfl ?_ | refine Z04 rfl ?_ | refine Z0u rfl rfl ?_ | refine Z00 rfl (Z59 ) ?_ | refine Z00 rfl (Z1w rfl) ?_ | refine Z00 rfl (Z0y rfl rfl) ?_ | (first | (refine Z05 rfl (Z03 (i := 0) S rfl rfl rfl rfl (dqq rfl) (dqq rfl)) ?_; clear S; intro w S) | (refine Z05 rfl (Z03 (i := 1) S rfl rfl rfl rfl (dqq rfl) (dqq rfl)) ?_; clear S; intro w S)))
  exact Z4u rfl rfl rfl S (i := 1) rfl rfl ⟨_, rfl, S.below, hno e rfl⟩
 | true =>
  rw [hT, if_pos rfl] at hR
  obtain ⟨bl, v', rfl, S'⟩ := hR
  replace S := S.join S'
  clear S'
  cases hA : okAC acc cl with
  | false =>
   have e : Z38 acc cl L i day amount = false := by unfold Z38 Z2d; rw [hA]; simp
   repeat' (first | refine Z0a ?_ | refine Z02 ?_ | refine Z08 ?_ | refine Z01 ?_ | refine Z0x ?_ | refine Z0r ?_ | refine Z0v rfl ?_ | (refine Z1c ?_; refine Z1p rfl ?_) | refine Z06 rfl ?_ | refine Z04 rfl ?_ | refine Z0u rfl rfl ?_ | refine Z00 rfl (Z59 ) ?_ | refine Z00 rfl (Z1w rfl) ?_ | refine Z00 rfl (Z0y rfl rfl) ?_ | (first | (refine Z05 rfl (Z03 (i := 0) S rfl rfl rfl rfl (dqq rfl) (dqq rfl)) ?_; clear S; intro w S) | (refine Z05 rfl (Z03 (i := 1) S rfl rfl rfl rfl (dqq rfl) (dqq rfl)) ?_; clear S; intro w S)))
   exact Z4u rfl rfl rfl S (i := 1) rfl rfl ⟨_, rfl, S.below, hno e rfl⟩
  | true =>
   have hclr : 0 ≤ cl ∧ cl ≤ 12 := by unfold okAC at hA; rw [Bool.and_eq_true] at hA; exact of_decide_eq_true hA.2
   cases hD : argD L i amount with
   | false =>
    have e : Z38 acc cl L i day amount = false := by unfold Z38; rw [hD]; simp
    have hD' := of_decide_eq_false hD
    repeat' (first | refine Z0a ?_ | refine Z02 ?_ | refine Z08 ?_ | refine Z01 ?_ | refine Z0x ?_ | refine Z0r ?_ | refine Z0v rfl ?_ | (refine Z1c ?_; refine Z1p rfl ?_) | refine Z06 rfl ?_ | refine Z04 rfl ?_ | (first | refine Z0u rfl rfl ?_ | refine Z0t rfl rfl ?_) | refine Z00 rfl (Z0z rfl rfl) ?_ | refine Z00 rfl (Z2x rfl rfl) ?_ | refine Z00 rfl (Z59 ) ?_ | refine Z00 rfl (Z1w rfl) ?_ | refine Z00 rfl (Z0y rfl rfl) ?_ | refine Z00 rfl (Z0e rfl) ?_ | refine Z00 rfl (Z09 rfl) ?_ | refine Z00 rfl (Z0b (i := 0) S rfl rfl rfl) ?_ | ((refine Z0j rfl (Z1t rfl rfl rfl rfl) (Zbe) ?_; intro w hb; replace S := S.grow hb; clear hb)) | (first | (refine Z05 rfl (Z03 (i := 0) S rfl rfl rfl rfl (dqq rfl) (dqq rfl)) ?_; clear S; intro w S) | (refine Z05 rfl (Z03 (i := 1) S rfl rfl rfl rfl (dqq rfl) (dqq rfl)) ?_; clear S; intro w S)) | (refine Z13 rfl rfl (fun h => ?_) (fun h => ?_) <;> (fail_if_success first | have := ntT h | have := ntF h) <;> (try simp only [tdyB] at h) <;> (try (exfalso; omega)) <;> (try (exfalso; simp only [inR, decide_eq_true_eq, decide_eq_false_iff_not, Bool.not_eq_true', Bool.not_eq_false', Int.not_lt, Int.not_le] at *; omega; done))) | (refine Z0g rfl (fun h => ?_) (fun h => ?_) <;> (fail_if_success first | have := ntT h | have := ntF h) <;> (try simp only [tdyB] at h) <;> (try (exfalso; omega)) <;> (try (exfalso; simp only [inR, decide_eq_true_eq, decide_eq_false_iff_not, Bool.not_eq_true', Bool.not_eq_false', Int.not_lt, Int.not_le] at *; omega; done))))
    all_goals exact Z4u rfl rfl rfl S (i := 1) rfl rfl ⟨_, rfl, S.below, hno e rfl⟩
   | true =>
    have hD' := of_decide_eq_true hD
    have hin : inR amount 0 1000000000000 = true := decide_eq_true hD'.2.2
    replace S : St w0 w (ledO bl acc v' cl L :: rowP v' L :: [.var b4 27 (bkV acc (.slice A L.length c) cl), .var b8 27 (bkV 0 (.slice none 0 0) 0)]) := S.perm (List.perm_append_comm (l₁ := [_, _]) (l₂ := [_, _]))
    repeat' (first | refine Z0a ?_ | refine Z02 ?_ | refine Z08 ?_ | refine Z01 ?_ | refine Z0k ?_ | refine Z18 rfl ?_ | refine Z06 rfl ?_ | refine Z04 rfl ?_ | refine Z0t rfl rfl ?_ | refine Z00 rfl (Z0z rfl rfl) ?_ | refine Z00 rfl (Z2x rfl rfl) ?_ | refine Z00 rfl (Z3l rfl rfl rfl rfl rfl rfl rfl) ?_ | refine Z00 rfl (Z1w rfl) ?_ | refine Z00 rfl (Z0y rfl rfl) ?_ | refine Z00 rfl (Z0e rfl) ?_ | refine Z00 rfl (Z09 rfl) ?_ | ((refine Z00 rfl (Z07 (hr.mono S.below) rfl rfl ?_ ?_) ?_; (first | omega | simp <;> omega); (first | omega | simp <;> omega))) | (first | (refine Z00 rfl (Z19 (hr.mono S.below) rfl ?_ ?_) ?_; (first | omega | simp <;> omega); (first | omega | simp <;> omega)) | refine Z00 rfl (Z0b (i := 2) S rfl rfl rfl) ?_ | refine Z00 rfl (Z0b (i := 4) S rfl rfl rfl) ?_ | refine Z00 rfl (Z0m (i := 5) S rfl rfl rfl rfl) ?_) | ((refine Z0j rfl (Z1t rfl rfl rfl rfl) (Zki hin) ?_; intro w hb; replace S := S.grow hb; clear hb)) | (refine Z0n rfl (Z1i S) ?_; rintro _ w ⟨b, rfl, -, S'⟩; replace S := S'; clear S') | (first | (refine Z05 rfl (Z03 (i := 0) S rfl rfl rfl rfl (dqq rfl) (dqq rfl)) ?_; clear S; intro w S) | (refine Z05 rfl (Z03 (i := 1) S rfl rfl rfl rfl (dqq rfl) (dqq rfl)) ?_; clear S; intro w S) | (refine Z05 rfl (Z03 (i := 2) S rfl rfl rfl rfl (dqq rfl) (dqq rfl)) ?_; clear S; intro w S) | (refine Z05 rfl (Z03 (i := 3) S rfl rfl rfl rfl (dqq rfl) (dqq rfl)) ?_; clear S; intro w S) | (refine Z05 rfl (Z03 (i := 4) S rfl rfl rfl rfl (dqq rfl) (dqq rfl)) ?_; clear S; intro w S) | (refine Z05 rfl (Z03 (i := 5) S rfl rfl rfl rfl (dqq rfl) (dqq rfl)) ?_; clear S; intro w S)) | (refine Z13 rfl rfl (fun h => ?_) (fun h => ?_) <;> (fail_if_success first | have := ntT h | have := ntF h) <;> (try simp only [tdyB] at h) <;> (try (exfalso; omega)) <;> (try (exfalso; omega; done))))
    replace S : St w0 w (ledO bl acc v' cl L :: rowP v' L :: [.var b4 27 (bkV acc (.slice A L.length c) cl), .var b8 27 (bkV 0 (.slice none 0 0) 0), .var _ 84 (newP L i day amount).enc, .var _ 84 (Z4n L i day).enc]) := S
    obtain ⟨a1, ha1⟩ : ∃ a1, IntKind.i64.wrap (acc - 1) = a1 := ⟨_, rfl⟩
    refine Z35 rfl (Z0w rfl rfl rfl) (Zdf (p := Z4n L i day) S hl hclr) ?_
    clear S
    rintro _ w ⟨rfl, hS⟩
    rw [ha1] at hS ⊢
    cases hp1 : Z5d a1 cl L (Z4n L i day) with
    | false =>
     rw [hp1, if_neg (by simp)] at hS
     have S := hS
     have e : Z38 acc cl L i day amount = false := by unfold Z38; rw [ha1, hp1]; simp
     repeat' (first | refine Z0a ?_ | refine Z02 ?_ | refine Z08 ?_ | refine Z01 ?_ | refine Z0x ?_ | refine Z0r ?_ | refine Z0v rfl ?_ | (refine Z1c ?_; refine Z1p rfl ?_) | refine Z06 rfl ?_ | refine Z04 rfl ?_ | refine Z0u rfl rfl ?_ | refine Z00 rfl (Z59 ) ?_ | refine Z00 rfl (Z1w rfl) ?_ | (first | (refine Z05 rfl (Z03 (i := 0) S rfl rfl rfl rfl (dqq rfl) (dqq rfl)) ?_; clear S; intro w S) | (refine Z05 rfl (Z03 (i := 1) S rfl rfl rfl rfl (dqq rfl) (dqq rfl)) ?_; clear S; intro w S) | (refine Z05 rfl (Z03 (i := 2) S rfl rfl rfl rfl (dqq rfl) (dqq rfl)) ?_; clear S; intro w S) | (refine Z05 rfl (Z03 (i := 3) S rfl rfl rfl rfl (dqq rfl) (dqq rfl)) ?_; clear S; intro w S) | (refine Z05 rfl (Z03 (i := 4) S rfl rfl rfl rfl (dqq rfl) (dqq rfl)) ?_; clear S; intro w S) | (refine Z05 rfl (Z03 (i := 5) S rfl rfl rfl rfl (dqq rfl) (dqq rfl)) ?_; clear S; intro w S)))
     exact Z4u rfl rfl rfl S (i := 3) rfl rfl ⟨_, rfl, S.below, hno e rfl⟩
    | true =>
     rw [hp1, if_pos rfl] at hS
     obtain ⟨v2, S⟩ := hS
     have hlen2 : (L ++ [Z4n L i day]).length ≤ 1000000000 := by
      have h2 := hp1
      unfold Z5d Z3e at h2
      simp only [Bool.and_eq_true, decide_eq_true_eq] at h2
      rw [List.length_append, List.length_singleton]; omega
     by_cases hm : 0 < amount
     ·repeat' (first | refine Z06 rfl ?_ | refine Z00 rfl (Z2o rfl rfl) ?_ | refine Z00 rfl (Z1w rfl) ?_ | refine Z00 rfl (Z0m (i := 4) S rfl rfl rfl rfl) ?_ | (refine Z13 rfl rfl (fun h => ?_) (fun h => ?_) <;> (fail_if_success first | have := ntT h | have := ntF h) <;> (try simp only [tdyB] at h) <;> (try (exfalso; omega)) <;> (try (exfalso; omega; done))))
      refine Z35 rfl (Z0w rfl rfl rfl) (Zdf (p := newP L i day amount) S hlen2 hclr) ?_
      clear S
      rintro _ w ⟨rfl, hS⟩
      rw [ha1] at hS ⊢
      cases hp2 : Z5d a1 cl (L ++ [Z4n L i day]) (newP L i day amount) with
      | false =>
       rw [hp2, if_neg (by simp)] at hS
       have S := hS
       have e : Z38 acc cl L i day amount = false := by unfold Z38; rw [ha1, hp2, decide_eq_false (by omega)]; simp
       repeat' (first | refine Z0a ?_ | refine Z02 ?_ | refine Z08 ?_ | refine Z01 ?_ | refine Z0x ?_ | refine Z0r ?_ | refine Z0v rfl ?_ | refine Z04 rfl ?_ | (first | refine Z0u rfl rfl ?_ | refine Z0t rfl rfl ?_) | refine Z00 rfl (Z59 ) ?_ | refine Z00 rfl (Z1w rfl) ?_ | (first | (refine Z05 rfl (Z03 (i := 0) S rfl rfl rfl rfl (dqq rfl) (dqq rfl)) ?_; clear S; intro w S) | (refine Z05 rfl (Z03 (i := 1) S rfl rfl rfl rfl (dqq rfl) (dqq rfl)) ?_; clear S; intro w S) | (refine Z05 rfl (Z03 (i := 2) S rfl rfl rfl rfl (dqq rfl) (dqq rfl)) ?_; clear S; intro w S) | (refine Z05 rfl (Z03 (i := 3) S rfl rfl rfl rfl (dqq rfl) (dqq rfl)) ?_; clear S; intro w S) | (refine Z05 rfl (Z03 (i := 4) S rfl rfl rfl rfl (dqq rfl) (dqq rfl)) ?_; clear S; intro w S) | (refine Z05 rfl (Z03 (i := 5) S rfl rfl rfl rfl (dqq rfl) (dqq rfl)) ?_; clear S; intro w S)))
       exact Z4u rfl rfl rfl S (i := 3) rfl rfl ⟨_, rfl, S.below, hno e rfl⟩
      | true =>
       rw [hp2, if_pos rfl] at hS
       obtain ⟨v3, S⟩ := hS
       obtain ⟨A2, c2, hz⟩ := (S.rdRow (D := Z0o) (i := 1) rfl).len; subst hz
       have e : Z38 acc cl L i day amount = true := by unfold Z38 Z2d; rw [ha1, hp1, hp2, hD, hA, ← ha1, hT]; simp
       repeat' (first | refine Z0a ?_ | refine Z02 ?_ | refine Z08 ?_ | refine Z01 ?_ | refine Z0r ?_ | refine Z0k ?_ | refine Z18 rfl ?_ | refine Z06 rfl ?_ | refine Z04 rfl ?_ | (first | refine Z0u rfl rfl ?_ | refine Z0t rfl rfl ?_) | refine Z00 rfl (Z1n rfl) ?_ | refine Z00 rfl (Z1w rfl) ?_ | refine Z00 rfl (Z09 rfl) ?_ | refine Z00 rfl (Z0m (i := 0) S rfl rfl rfl rfl) ?_ | (first | (refine Z05 rfl (Z03 (i := 0) S rfl rfl rfl rfl (dqq rfl) (dqq rfl)) ?_; clear S; intro w S) | (refine Z05 rfl (Z03 (i := 1) S rfl rfl rfl rfl (dqq rfl) (dqq rfl)) ?_; clear S; intro w S) | (refine Z05 rfl (Z03 (i := 2) S rfl rfl rfl rfl (dqq rfl) (dqq rfl)) ?_; clear S; intro w S) | (refine Z05 rfl (Z03 (i := 3) S rfl rfl rfl rfl (dqq rfl) (dqq rfl)) ?_; clear S; intro w S) | (refine Z05 rfl (Z03 (i := 4) S rfl rfl rfl rfl (dqq rfl) (dqq rfl)) ?_; clear S; intro w S) | (refine Z05 rfl (Z03 (i := 5) S rfl rfl rfl rfl (dqq rfl) (dqq rfl)) ?_; clear S; intro w S)))
       refine Z4u rfl rfl rfl S (i := 3) rfl rfl ⟨_, rfl, S.below, ?_⟩
       unfold Z96 Z70
       rw [e, if_pos rfl, if_pos hm]
       exact ⟨_, rfl, S.keep [false, true]⟩
     ·obtain ⟨A2, c2, hz⟩ := (S.rdRow (D := Z0o) (i := 1) rfl).len; subst hz
      have e : Z38 acc cl L i day amount = true := by unfold Z38 Z2d; rw [ha1, hp1, hD, hA, ← ha1, hT, decide_eq_true (by omega)]; simp
      repeat' (first | refine Z0a ?_ | refine Z02 ?_ | refine Z08 ?_ | refine Z01 ?_ | refine Z0r ?_ | refine Z0k ?_ | refine Z18 rfl ?_ | (refine Z1c ?_; refine Z1p rfl ?_) | refine Z06 rfl ?_ | refine Z04 rfl ?_ | refine Z0t rfl rfl ?_ | refine Z00 rfl (Z2o rfl rfl) ?_ | refine Z00 rfl (Z1n rfl) ?_ | refine Z00 rfl (Z1w rfl) ?_ | refine Z00 rfl (Z09 rfl) ?_ | refine Z00 rfl (Z0m (i := 0) S rfl rfl rfl rfl) ?_ | (first | (refine Z05 rfl (Z03 (i := 0) S rfl rfl rfl rfl (dqq rfl) (dqq rfl)) ?_; clear S; intro w S) | (refine Z05 rfl (Z03 (i := 1) S rfl rfl rfl rfl (dqq rfl) (dqq rfl)) ?_; clear S; intro w S) | (refine Z05 rfl (Z03 (i := 2) S rfl rfl rfl rfl (dqq rfl) (dqq rfl)) ?_; clear S; intro w S) | (refine Z05 rfl (Z03 (i := 3) S rfl rfl rfl rfl (dqq rfl) (dqq rfl)) ?_; clear S; intro w S) | (refine Z05 rfl (Z03 (i := 4) S rfl rfl rfl rfl (dqq rfl) (dqq rfl)) ?_; clear S; intro w S) | (refine Z05 rfl (Z03 (i := 5) S rfl rfl rfl rfl (dqq rfl) (dqq rfl)) ?_; clear S; intro w S)) | (refine Z13 rfl rfl (fun h => ?_) (fun h => ?_) <;> (fail_if_success first | have := ntT h | have := ntF h) <;> (try simp only [tdyB] at h) <;> (try (exfalso; omega)) <;> (try (exfalso; omega; done))))
      refine Z4u rfl rfl rfl S (i := 3) rfl rfl ⟨_, rfl, S.below, ?_⟩
      unfold Z96 Z70
      rw [e, if_pos rfl, if_neg hm]
      exact ⟨_, rfl, S.keep [false, true]⟩

theorem r_yield2 {P : Program} {ρ : Operand → Value} {w w0 : World} {d : Option Tmp} {ty : TypeId} {pos : String} {af : Array Edge} {g : Option (Nat × Bool)} {fo a0 a1 : Operand} {v0 v1 : Value} {L i : Nat} {r : Loop} {p q : Tmp} {ats : Array TypeId} {os : List Ob} (S : St w0 w os) (hi : os[i]? = some (.raw L (.loop r)))
  (hf : ρ fo = .func (.yield L) #[] #[]) (h0 : ρ a0 = v0) (h1 : ρ a1 = v1) (hp : r.params = #[p, q]) :
  Go.Gx.Runs P ρ ⟨d, .call { callee := .value fo, args := #[a0, a1], argTypes := ats }, ty, pos, af, g⟩ w (.ok (.round L r.fn ((r.tmps.setIfInBounds p v0).setIfInBounds q v1) r.assign r.body) w) :=
 ⟨by
  have e := run_yield (P := P) (args := #[v0, v1]) (S.rawAt hi) (by rw [hp]; rfl)
  rw [hp] at e
  simp only [execOp, resolve, hf, Deferred.ofValue, List.map_toArray, List.map_cons, List.map_nil, h0, h1]
  simpa [invoke, bind, Sem.bind, pure] using e⟩
def bmD : List GPosting → List (Int × Bool)
 | [] => []
 | q :: r => if q.Kind = 3 then mPut q.Of true (bmD r) else bmD r
theorem Zkr {k : Int} : ∀ {r : List GPosting}, (mGet k (bmD r)).getD false = r.any fun q => decide (q.Kind = 3 ∧ q.Of = k)
 | [] => rfl
 | q :: r => by
  have ih := @Zkr k r
  unfold bmD
  rw [List.any_cons, ← ih]
  by_cases hk : q.Kind = 3
  ·rw [if_pos hk, Z8h]
   by_cases e : k = q.Of
   ·rw [if_pos e, decide_eq_true ⟨hk, e.symm⟩]; rfl
   ·rw [if_neg e, decide_eq_false (fun h => e h.2.symm)]; rfl
  ·rw [if_neg hk, decide_eq_false (fun h => hk h.1)]; rfl
def hitC (L : List GPosting) (id : Int) (n : Nat) : Bool := decide ((nth L (n : Int)).Kind ≠ 3 ∧ (nth L (n : Int)).Subject = id) && !((L.drop (n + 1)).any fun q => decide (q.Kind = 3 ∧ q.Of = (n : Int)))
def chg (L : List GPosting) (id : Int) : Nat → Int
 | 0 => -1
 | n + 1 => if hitC L id n then n else chg L id n
def Z3y (L : List GPosting) (id : Int) : Int := chg L id L.length
theorem drop_nth {L : List GPosting} {n : Nat} (h : n < L.length) : L.drop n = nth L (n : Int) :: L.drop (n + 1) := by
 have := Z1u (l := L) (i := (n : Int)) (by omega) (by omega)
 rw [Int.toNat_natCast] at this
 rw [List.drop_eq_getElem_cons h]
 congr 1
 rw [List.getElem?_eq_getElem h] at this
 exact Option.some.inj this
abbrev yldV (L : Nat) : Value := .func (.yield L) #[] #[]
def YldP (w0 : World) (base : Nat → List Ob) (stop : Nat → List Ob) (hit : Nat → Bool) (P : List GPosting) (L : Nat) : Prop :=
 ∀ (n : Nat) (ex : List Ob) (w : World), n < P.length → St w0 w (base (n + 1) ++ ex) →
  ∀ {ρ : Operand → Value} {d : Option Tmp} {ty : TypeId} {pos : String} {af : Array Edge} {g : Option (Nat × Bool)} {fo a0 a1 : Operand} {ats : Array TypeId}, ρ fo = yldV L → ρ a0 = .int .i64 n → ρ a1 = .agg (nth P (n : Int)).enc.toArray →
   ∃ f tmps a2 b, Go.Gx.Runs Tryd.prog ρ ⟨d, .call { callee := .value fo, args := #[a0, a1], argTypes := ats }, ty, pos, af, g⟩ w (.ok (.round L f tmps a2 b) w) ∧
    RoundIn Fence.wide 0 Tryd.prog L f tmps a2 b w fun e w'' => ∃ u, e = .returned u ∧ ((hit n = true ∧ u = .bool false ∧ St w0 w'' (stop n ++ ex)) ∨ (hit n = false ∧ u = .bool true ∧ St w0 w'' (base n ++ ex)))
theorem st_yldP {w0 w : World} {base stop : Nat → List Ob} {ex : List Ob} {hit : Nat → Bool} {P : List GPosting} {L m N : Nat} {ops : Array Oper} {Q : Post} {σ : Nat → Value} {d : Option Tmp} {ty : TypeId} {pos : String} {af : Array Edge} {g : Option (Nat × Bool)} {fo a0 a1 : Operand} {ats : Array TypeId} {rest : List Oper}
  (hw : Z3w ⟨d, .call { callee := .value fo, args := #[a0, a1], argTypes := ats }, ty, pos, af, g⟩ ops N σ = true) (hY : YldP w0 base stop hit P L) (hm : m < P.length) (S : St w0 w (base (m + 1) ++ ex)) (hf : opv (cut N σ) fo = yldV L) (h0 : opv (cut N σ) a0 = .int .i64 m) (h1 : opv (cut N σ) a1 = .agg (nth P (m : Int)).enc.toArray)
  (k : ∀ u w1, ((hit m = true ∧ u = .bool false ∧ St w0 w1 (stop m ++ ex)) ∨ (hit m = false ∧ u = .bool true ∧ St w0 w1 (base m ++ ex))) → wl Tryd.prog N ops Q rest (updO σ d u) w1) :
  wl Tryd.prog N ops Q (⟨d, .call { callee := .value fo, args := #[a0, a1], argTypes := ats }, ty, pos, af, g⟩ :: rest) σ w := by
 obtain ⟨f, tm, a2, b1, hrun, hround⟩ := hY m ex w hm S (ρ := opv (cut N σ)) (d := d) (ty := ty) (pos := pos) (af := af) (g := g) (fo := fo) (a0 := a0) (a1 := a1) (ats := ats) hf h0 h1
 exact st_round hw hrun hround k
def Zbv (hit : Nat → Bool) : Nat → Option Nat
 | 0 => none
 | n + 1 => if hit n then some n else Zbv hit n
theorem bwd_run {w0 w : World} {base stop : Nat → List Ob} {ex : List Ob} {hit : Nat → Bool} {P : List GPosting} {L bv : Nat} {v : Value} (hY : YldP w0 base stop hit P L) (hr : Rd Z0o.ty w0 v P) (hl : P.length ≤ 1000000000)
  (S : St w0 w (.var bv 25 [v] :: (base P.length ++ ex))) :
  CallsW Tryd.prog 114 #[yldV L, .pointer (some ⟨bv, 0, none⟩)] w fun u w' => match Zbv hit P.length with
   | none => St w0 w' (.var bv 25 [v] :: (base 0 ++ ex))
   | some n => St w0 w' (.var bv 25 [v] :: (stop n ++ ex)) := by
 refine CallsW.mk ?_
 obtain ⟨A, c, rfl⟩ := hr.len
 refine Z0l Tryd.func114 rfl (by intro _ h; first | exact nomatch h.1 | (obtain ⟨_, h, _⟩ := h; exact nomatch h)) Tryd.ntmps114 rfl ?_
 repeat' (first | refine Z0a ?_ | refine Z02 ?_ | refine Z08 ?_ | refine Z01 ?_ | refine Z0f ?_ | refine Z04 rfl ?_ | ((refine Z00 rfl (Z24 rfl rfl ?_ ?_) ?_; (first | omega | simp <;> omega); (first | omega | simp <;> omega))) | refine Z00 rfl (Z0e rfl) ?_ | refine Z00 rfl (Z0b (i := 0) S rfl rfl rfl) ?_)
 refine Z1l (fun m σ w1 => ∃ x : Int, Has σ [(0, yldV L), (1, .pointer (some ⟨bv, 0, none⟩)), (3, .int .i64 x)] ∧ x = (m : Int) - 1 ∧ St w0 w1 (.var bv 25 [.slice A P.length c] :: (base m ++ ex)) ∧ m ≤ P.length ∧ Zbv hit P.length = Zbv hit m) P.length ?_ ?_
 ·exact ⟨_, ⟨rfl, rfl, rfl, trivial⟩, rfl, S, Nat.le_refl _, rfl⟩
 clear S
 rintro m σ w1 ⟨x, hs, hx, S, hm, hlast⟩
 refine Z1o hs ?_
 cases m with
 | zero =>
  repeat' (first | refine Z0a ?_ | refine Z02 ?_ | refine Z08 ?_ | refine Z01 ?_ | refine Z06 rfl ?_ | refine Z00 rfl (Z2x rfl rfl) ?_)
  refine Z0g rfl (fun h => absurd (of_decide_eq_true h) (by omega)) (fun h => ?_)
  refine Z1b ?_
  refine Z0s ?_
  refine Z0s ?_
  refine Z15 ?_
  refine end0 rfl ⟨_, rfl, ?_⟩
  rw [hlast]
  exact S
 | succ m =>
  obtain rfl : x = (m : Int) := by omega
  clear hx
  repeat' (first | refine Z0a ?_ | refine Z02 ?_ | refine Z08 ?_ | refine Z01 ?_ | refine Z0k ?_ | refine Z0f ?_ | refine Z0v rfl ?_ | refine Z06 rfl ?_ | refine Z00 rfl (Z2x rfl rfl) ?_ | ((refine Z00 rfl (Z07 (hr.mono S.below) rfl rfl ?_ ?_) ?_; (first | omega | simp <;> omega); (first | omega | simp <;> omega))) | (first | (refine Z00 rfl (Z19 (hr.mono S.below) rfl ?_ ?_) ?_; (first | omega | simp <;> omega); (first | omega | simp <;> omega)) | refine Z00 rfl (Z0b (i := 0) S rfl rfl rfl) ?_))
  refine st_yldP rfl hY (by omega) (S.perm (List.perm_middle (l₁ := base (m + 1))).symm) rfl rfl rfl ?_
  clear S
  rintro u w (⟨hh, rfl, S⟩ | ⟨hh, rfl, S⟩)
  ·repeat' (first | refine Z08 ?_ | refine Z01 ?_ | refine Z0x ?_ | refine Z27 ?_ | refine Z0r ?_ | refine Z0v rfl ?_ | refine Z00 rfl (Z1w rfl) ?_)
   refine end0r rfl ⟨_, rfl, ?_⟩
   have e : Zbv hit P.length = some m := by rw [hlast, Zbv, if_pos hh]
   rw [e]
   exact S.perm (List.perm_middle (l₁ := stop m))
  ·repeat' (first | refine Z02 ?_ | refine Z08 ?_ | refine Z01 ?_ | refine Z0h ?_ | refine Z0k ?_ | refine Z18 rfl ?_ | refine Z06 rfl ?_ | refine Z04 rfl ?_ | ((refine Z00 rfl (Z24 rfl rfl ?_ ?_) ?_; (first | omega | simp <;> omega); (first | omega | simp <;> omega))) | refine Z00 rfl (Z1w rfl) ?_)
   refine nextI.mk ⟨m, by omega, _, ⟨rfl, rfl, rfl, trivial⟩, rfl, S.perm (List.perm_middle (l₁ := base m)), by omega, ?_⟩
   rw [hlast, Zbv, if_neg (by rw [hh]; simp)]

theorem Zeo {L : List GPosting} {id : Int} : ∀ n, chg L id n = match Zbv (hitC L id) n with | none => -1 | some k => (k : Int)
 | 0 => rfl
 | n + 1 => by
  unfold chg Zbv
  cases h : hitC L id n with
  | true => rfl
  | false => exact Zeo n
theorem back_run {A : Option Addr} {n c : Nat} {w0 : World} : CallsR Tryd.prog 107 #[.slice A n c] w0 fun r w' => ∃ b, r = .func (.func 114) #[] [.pointer (some ⟨b, 0, none⟩)].toArray ∧ St w0 w' [.var b 25 [.slice A n c]] := by
 have S := St.start w0
 refine CallsR.mk ?_
 refine Z0l Tryd.func107 rfl (by intro _ h; first | exact nomatch h.1 | (obtain ⟨_, h, _⟩ := h; exact nomatch h)) Tryd.ntmps107 rfl ?_
 repeat' (first | refine Z0a ?_ | refine Z02 ?_ | refine Z08 ?_ | refine Z01 ?_ | refine Z0r ?_ | refine Z04 rfl ?_ | refine Z00 rfl (Z62 rfl) ?_ | (refine Z2g ?_; refine Z0n rfl (Z2h S rfl) ?_; rintro _ w ⟨b, rfl, -, S'⟩; replace S := S'; clear S'))
 exact end1 rfl rfl ⟨_, rfl, S.below, _, rfl, S⟩
theorem Zks {P : Program} {ρ : Operand → Value} {o : Oper} {w w' : World} {v u : Value} (h : Go.Gx.Runs P ρ o w (.ok (.value v) w')) (e : v = u) : Go.Gx.Runs P ρ o w (.ok (.value u) w') := e ▸ h
theorem Zh7 {P : Program} {fn : Func} {n : Nat} {σ : Nat → Value} {w0 w : World} {t T b i : Nat} {os : List Ob} {T' : TypeId} {v : Value} [hT : TF P T false 1]
  (hr : fn.results = #[.cell t T]) (hv : cut n σ t = .pointer (some ⟨b, 0, none⟩)) (S : St w0 w os) (hi : os[i]? = some (.var b T' [v])) : (results fn (Go.Gx.Fr n σ).tmps).run P w = .ok v w := by
 unfold results
 rw [hr]
 refine (run_bind (Zg7 (b := v) ?_)).trans rfl
 show (do loadVar T (← asAddr ((Go.Gx.Fr n σ).tmps.getD t undef)) : Sem Value).run P w = _
 rw [Z4p, hv]
 exact loadVar1 S hi
theorem Fr_set2 (n : Nat) (σ : Nat → Value) (p q : Nat) (v u : Value) : ((Go.Gx.Fr n σ).tmps.setIfInBounds p v).setIfInBounds q u = (Go.Gx.Fr n (upd (upd σ p v) q u)).tmps := by rw [Fr_set, Fr_set]
abbrev blC (acc : Int) (v : Value) (cl : Int) (x : Bool) : List Value := [.int .i64 acc, v, .int .i64 cl, .bool x]
abbrev chO (b3 b4 b5 bm : Nat) (id x : Int) (m : List (Int × Bool)) : List Ob := [Z2r eI eB bm m, .var b3 3 [.int .i64 id], .var b4 3 [.int .i64 x], .var b5 155 [.map (some bm)]]
set_option maxRecDepth 20000 in
set_option maxHeartbeats 1000000 in
theorem Zia {bl : Nat} {acc cl id : Int} {x : Bool} {L : List GPosting} {v : Value} {w0 : World} (hc : Z32 w0 ⟨bl, 0, none⟩ (blC acc v cl x)) (hr : Rd Z0o.ty w0 v L) (hl : L.length ≤ 1000000000) :
  CallsR Tryd.prog 85 #[.pointer (some ⟨bl, 0, none⟩), .int .i64 id] w0 fun r w' => r = .int .i64 (Z3y L id) := by
 have S := St.start w0
 obtain ⟨A0, c, rfl⟩ := hr.len
 refine CallsR.mk ?_
 refine Zen Tryd.func85 rfl Tryd.ntmps85 rfl ?_
 refine Zh6 (WD_of ?_)
 repeat' (first | refine Z02 ?_ | refine Z08 ?_ | (refine Z2g ?_; refine Z0n rfl (Z2h S rfl) ?_; rintro _ w ⟨b, rfl, -, S'⟩; replace S := S'; clear S') | (refine Z0n rfl (Z1i S) ?_; rintro _ w ⟨b, rfl, -, S'⟩; replace S := S'; clear S'))
 refine Z5y (Zh6 (WD_of ?_))
 repeat' (refine Z02 ?_)
 refine Z0n rfl (Z5p (eK := eI) (eV := eB) S) ?_
 rintro _ w ⟨bm, rfl, -, S'⟩; replace S := S'; clear S'
 repeat' (first | refine Z08 ?_ | (refine Z0n rfl (Z1i S) ?_; rintro _ w ⟨b, rfl, -, S'⟩; replace S := S'; clear S') | (first | (refine Z05 rfl (Z03 (i := 0) S rfl rfl rfl rfl (dqq rfl) (dqq rfl)) ?_; clear S; intro w S) | (refine Z05 rfl (Z03 (i := 1) S rfl rfl rfl rfl (dqq rfl) (dqq rfl)) ?_; clear S; intro w S) | (refine Z05 rfl (Z03 (i := 2) S rfl rfl rfl rfl (dqq rfl) (dqq rfl)) ?_; clear S; intro w S) | (refine Z05 rfl (Z03 (i := 3) S rfl rfl rfl rfl (dqq rfl) (dqq rfl)) ?_; clear S; intro w S)))
 refine Z5y (Zh6 (Zh6 (WD_of ?_)))
 repeat' (first | refine Z02 ?_ | refine Z06 rfl ?_ | refine Z00 rfl (Z1n rfl) ?_ | refine Z00 rfl (Z09 rfl) ?_ | refine Z00 rfl (Z40 (hc.mono S.below) rfl rfl) ?_)
 refine Z25 rfl (Z1h rfl rfl) back_run ?_
 rintro _ w hb ⟨bv, rfl, S'⟩
 replace S := S.join S'
 clear S' hb
 rename_i b3 _ b4 _ _ _
 obtain ⟨b5, rfl⟩ : ∃ x, x = b := ⟨_, rfl⟩
 repeat' (refine Z08 ?_)
 refine Z5y (WD_block (WD_range S rfl ?_))
 clear S
 intro fn Lp Dk w1 r hrr S
 have hrn : recJ r none = r := by subst hrr; rfl
 have hY : YldP w0 (fun n => .raw Lp (.loop r) :: chO b3 b4 b5 bm id 0 (bmD (L.drop n))) (fun n => .raw Lp (.loop (recJ r (some .ret))) :: chO b3 b4 b5 bm id n (bmD (L.drop (n + 1)))) (hitC L id) L Lp := by
  clear S
  intro n ex w hn S ρ d ty pos af g fo a0 a1 ats hf h0 h1
  subst hrr
  refine ⟨fn, _, _, _, r_yield2 S (i := 0) rfl hf h0 h1 rfl, ?_⟩
  refine round_WP S rfl rfl rfl (Fr_set2 _ _ _ _ _ _) ?_
  refine Z1o (l := [(3, .pointer (some ⟨b3, 0, none⟩)), (4, .pointer (some ⟨b4, 0, none⟩)), (5, .pointer (some ⟨b5, 0, none⟩)), (15, .int .i64 n), (16, .agg (nth L (n : Int)).enc.toArray)]) ⟨rfl, rfl, rfl, rfl, rfl, trivial⟩ ?_
  repeat' (first | refine Z0a ?_ | refine Z02 ?_ | refine Z08 ?_ | refine Z01 ?_ | refine Z04 rfl ?_ | (refine Z0n rfl (Z1i S) ?_; rintro _ w ⟨b, rfl, -, S'⟩; replace S := S'.front; clear S') | ((refine Z05 rfl (Z03 (i := 0) S rfl rfl rfl rfl (dqq rfl) (dqq rfl)) ?_; clear S; intro w S)))
  refine ⟨rfl, _, (show St w0 w (.var b 84 (nth L (n : Int)).enc :: .raw Lp _ :: (chO b3 b4 b5 bm id 0 (bmD (L.drop (n + 1))) ++ ex)) from S).perm (List.Perm.swap _ _ _), fun w3 S3 => ?_⟩
  replace S : St w0 w3 (.raw Lp _ :: .var b 84 (nth L (n : Int)).enc :: (chO b3 b4 b5 bm id 0 (bmD (L.drop (n + 1))) ++ ex)) := S3
  clear S3
  have hdr : bmD (L.drop n) = if (nth L (n : Int)).Kind = 3 then mPut (nth L (n : Int)).Of true (bmD (L.drop (n + 1))) else bmD (L.drop (n + 1)) := by rw [drop_nth hn]; rfl
  have hbg := @Zkr (n : Int) (L.drop (n + 1))
  by_cases hk : (nth L (n : Int)).Kind = 3
  ·rw [if_pos hk] at hdr
   have hh : hitC L id n = false := by unfold hitC; rw [decide_eq_false (fun h => h.1 hk)]; rfl
   repeat' (first | refine Z0a ?_ | refine Z02 ?_ | refine Z08 ?_ | refine Z01 ?_ | refine Z0h ?_ | refine Z0f ?_ | refine Z00 rfl (Z2k rfl rfl) ?_ | refine Z00 rfl (Z09 rfl) ?_ | (first | refine Z00 rfl (Z0b (i := 1) S rfl rfl rfl) ?_ | refine Z00 rfl (Z0b (i := 5) S rfl rfl rfl) ?_) | (refine Z05 rfl (Z4v (i := 2) (eK := eI) (eV := eB) (k := (nth L (n : Int)).Of) (v := true) S rfl rfl rfl rfl) ?_; clear S; intro w S) | (refine Z0g rfl (fun h => ?_) (fun h => ?_) <;> (fail_if_success first | have := ntT h | have := ntF h) <;> (try simp only [tdyB] at h) <;> (try (exfalso; omega))))
   refine ⟨none, _, rfl, S, fun w5 S5 => .inr ⟨hh, rfl, ?_⟩⟩
   have S6 := (S5.perm (List.Perm.swap _ _ _)).tail
   show St w0 w5 (.raw Lp _ :: (chO b3 b4 b5 bm id 0 (bmD (L.drop n)) ++ ex))
   rw [hdr]
   exact S6
  ·rw [if_neg hk] at hdr
   by_cases hid : (nth L (n : Int)).Subject = id
   ·obtain ⟨bb, hbb⟩ : ∃ bb, (mGet (n : Int) (bmD (L.drop (n + 1)))).getD false = bb := ⟨_, rfl⟩
    have hh : hitC L id n = !bb := by unfold hitC; rw [decide_eq_true ⟨hk, hid⟩, ← hbg, hbb]; rfl
    cases bb
    ·repeat' (first | refine Z0a ?_ | refine Z02 ?_ | refine Z08 ?_ | refine Z01 ?_ | refine Z27 ?_ | refine Z0r ?_ | refine Z0f ?_ | refine Z0v rfl ?_ | refine Z06 rfl ?_ | refine Z0u rfl rfl ?_ | refine Z00 rfl (Z2k rfl rfl) ?_ | refine Z00 rfl (Z1w rfl) ?_ | refine Z00 rfl (Z09 rfl) ?_ | (first | refine Z00 rfl (Z0b (i := 1) S rfl rfl rfl) ?_ | refine Z00 rfl (Z0b (i := 3) S rfl rfl rfl) ?_ | refine Z00 rfl (Z0b (i := 5) S rfl rfl rfl) ?_) | (first | (refine Z05 rfl (Z03 (i := 0) S rfl rfl rfl rfl (dqq rfl) (dqq rfl)) ?_; clear S; intro w S) | (refine Z05 rfl (Z03 (i := 1) S rfl rfl rfl rfl (dqq rfl) (dqq rfl)) ?_; clear S; intro w S) | (refine Z05 rfl (Z03 (i := 2) S rfl rfl rfl rfl (dqq rfl) (dqq rfl)) ?_; clear S; intro w S) | (refine Z05 rfl (Z03 (i := 3) S rfl rfl rfl rfl (dqq rfl) (dqq rfl)) ?_; clear S; intro w S) | (refine Z05 rfl (Z03 (i := 4) S rfl rfl rfl rfl (dqq rfl) (dqq rfl)) ?_; clear S; intro w S) | (refine Z05 rfl (Z03 (i := 5) S rfl rfl rfl rfl (dqq rfl) (dqq rfl)) ?_; clear S; intro w S)) | (refine Z00 (v := .bool false) rfl (Zks (Z3u (k := (n : Int)) (eK := eI) (eV := eB) false rfl (S.mapAt (i := 2) rfl) rfl rfl) (congrArg Value.bool hbb)) ?_) | (refine Z13 rfl rfl (fun h => ?_) (fun h => ?_) <;> (fail_if_success first | have := ntT h | have := ntF h) <;> (try simp only [tdyB] at h) <;> (try (exfalso; omega))) | (refine Z0g rfl (fun h => ?_) (fun h => ?_) <;> (fail_if_success first | have := ntT h | have := ntF h) <;> (try simp only [tdyB] at h) <;> (try (exfalso; omega))))
     refine ⟨some .ret, _, rfl, S, fun w5 S5 => .inl ⟨hh, rfl, ?_⟩⟩
     have S6 := (S5.perm (List.Perm.swap _ _ _)).tail
     show St w0 w5 (.raw Lp _ :: (chO b3 b4 b5 bm id n (bmD (L.drop (n + 1))) ++ ex))
     exact S6
    ·repeat' (first | refine Z0a ?_ | refine Z02 ?_ | refine Z08 ?_ | refine Z01 ?_ | refine Z0h ?_ | refine Z0k ?_ | refine Z0f ?_ | refine Z18 rfl ?_ | refine Z06 rfl ?_ | refine Z0u rfl rfl ?_ | refine Z00 rfl (Z2k rfl rfl) ?_ | refine Z00 rfl (Z1w rfl) ?_ | refine Z00 rfl (Z09 rfl) ?_ | (first | refine Z00 rfl (Z0b (i := 1) S rfl rfl rfl) ?_ | refine Z00 rfl (Z0b (i := 3) S rfl rfl rfl) ?_ | refine Z00 rfl (Z0b (i := 5) S rfl rfl rfl) ?_) | (refine Z00 (v := .bool true) rfl (Zks (Z3u (k := (n : Int)) (eK := eI) (eV := eB) false rfl (S.mapAt (i := 2) rfl) rfl rfl) (congrArg Value.bool hbb)) ?_) | (refine Z13 rfl rfl (fun h => ?_) (fun h => ?_) <;> (fail_if_success first | have := ntT h | have := ntF h) <;> (try simp only [tdyB] at h) <;> (try (exfalso; omega))) | (refine Z0g rfl (fun h => ?_) (fun h => ?_) <;> (fail_if_success first | have := ntT h | have := ntF h) <;> (try simp only [tdyB] at h) <;> (try (exfalso; omega))))
     refine ⟨none, _, rfl, S, fun w5 S5 => .inr ⟨hh, rfl, ?_⟩⟩
     have S6 := (S5.perm (List.Perm.swap _ _ _)).tail
     show St w0 w5 (.raw Lp _ :: (chO b3 b4 b5 bm id 0 (bmD (L.drop n)) ++ ex))
     rw [hdr]
     exact S6
   ·have hh : hitC L id n = false := by unfold hitC; rw [decide_eq_false (fun h => hid h.2)]; rfl
    repeat' (first | refine Z0a ?_ | refine Z02 ?_ | refine Z08 ?_ | refine Z01 ?_ | refine Z0h ?_ | refine Z0k ?_ | refine Z0f ?_ | refine Z18 rfl ?_ | (refine Z1c ?_; refine Z1p rfl ?_) | refine Z06 rfl ?_ | refine Z0t rfl rfl ?_ | refine Z00 rfl (Z2k rfl rfl) ?_ | refine Z00 rfl (Z09 rfl) ?_ | (first | refine Z00 rfl (Z0b (i := 1) S rfl rfl rfl) ?_ | refine Z00 rfl (Z0b (i := 3) S rfl rfl rfl) ?_) | (refine Z13 rfl rfl (fun h => ?_) (fun h => ?_) <;> (fail_if_success first | have := ntT h | have := ntF h) <;> (try simp only [tdyB] at h) <;> (try (exfalso; omega)) <;> (try (exfalso; omega; done))) | (refine Z0g rfl (fun h => ?_) (fun h => ?_) <;> (fail_if_success first | have := ntT h | have := ntF h) <;> (try simp only [tdyB] at h) <;> (try (exfalso; omega)) <;> (try (exfalso; omega; done))))
    refine ⟨none, _, rfl, S, fun w5 S5 => .inr ⟨hh, rfl, ?_⟩⟩
    have S6 := (S5.perm (List.Perm.swap _ _ _)).tail
    show St w0 w5 (.raw Lp _ :: (chO b3 b4 b5 bm id 0 (bmD (L.drop n)) ++ ex))
    rw [hdr]
    exact S6
 have S2 := (show St w0 w1 [.raw Lp (.loop r), .raw Dk (.deferred (some [])), .var b3 3 [.int .i64 id], .var b4 3 [.int .i64 0], Z2r eI eB bm [], .var b5 155 [.map (some bm)], .var bv 25 [.slice A0 L.length c]] from S).perm ((List.perm_append_comm (l₁ := [_, _, _, _, _, _]) (l₂ := [_])).trans (List.Perm.cons _ (List.Perm.cons _ ((List.perm_append_comm (l₁ := [_]) (l₂ := [_, _, _, _])).trans (List.perm_middle (l₁ := [_, _]))))))
 have eN : bmD (L.drop L.length) = [] := by rw [List.drop_length]; rfl
 refine Calls.mono (bwd_run (ex := [.raw Dk (.deferred (some []))]) hY hr hl (by simp only [eN]; exact S2)).out ?_
 clear S S2
 rintro e w' ⟨u, rfl, hE⟩
 refine ⟨⟨u, rfl⟩, ?_⟩
 have hlc := @Zeo L id L.length
 cases hfd : Zbv (hitC L id) L.length with
 | none =>
  rw [hfd] at hE hlc
  have hE := hE.perm (List.Perm.swap _ _ _)
  refine ⟨none, _, by rw [hrn]; exact hE, fun w2 S => Zfu (Z5y (WD_of ?_))⟩
  replace S : St w0 w2 [.var bv 25 [.slice A0 L.length c], Z2r eI eB bm (bmD (L.drop 0)), .var b3 3 [.int .i64 id], .var b4 3 [.int .i64 0], .var b5 155 [.map (some bm)], .raw Dk (.deferred (some []))] := S
  repeat' (first | refine Z0a ?_ | refine Z02 ?_ | refine Z08 ?_ | refine Z01 ?_ | refine Z0r ?_ | (first | (refine Z05 rfl (Z03 (i := 0) S rfl rfl rfl rfl (dqq rfl) (dqq rfl)) ?_; clear S; intro w S) | (refine Z05 rfl (Z03 (i := 1) S rfl rfl rfl rfl (dqq rfl) (dqq rfl)) ?_; clear S; intro w S) | (refine Z05 rfl (Z03 (i := 2) S rfl rfl rfl rfl (dqq rfl) (dqq rfl)) ?_; clear S; intro w S) | (refine Z05 rfl (Z03 (i := 3) S rfl rfl rfl rfl (dqq rfl) (dqq rfl)) ?_; clear S; intro w S) | (refine Z05 rfl (Z03 (i := 4) S rfl rfl rfl rfl (dqq rfl) (dqq rfl)) ?_; clear S; intro w S)))
  have S5 : St w0 w (marks [Dk] ++ [.var bv 25 [.slice A0 L.length c], Z2r eI eB bm (bmD (L.drop 0)), .var b3 3 [.int .i64 id], .var b4 3 [.int .i64 (-1)], .var b5 155 [.map (some bm)]]) := S.perm (List.perm_append_comm (l₁ := [_, _, _, _, _]) (l₂ := [_]))
  exact Z71 (fun w' S' => ⟨_, Zh7 rfl rfl S' (i := 3) rfl, _, rfl, S'.below, by unfold Z3y; rw [hlc]⟩) [Dk] _ S5
 | some n =>
  rw [hfd] at hE hlc
  have hE := hE.perm (List.Perm.swap _ _ _)
  refine ⟨some .ret, _, hE, fun w2 S => WD_ret (inBD_ret (Zkq ?_))⟩
  have S5 : St w0 w2 (marks [Dk] ++ [.var bv 25 [.slice A0 L.length c], Z2r eI eB bm (bmD (L.drop (n + 1))), .var b3 3 [.int .i64 id], .var b4 3 [.int .i64 n], .var b5 155 [.map (some bm)]]) := (show St w0 w2 [.var bv 25 [.slice A0 L.length c], Z2r eI eB bm (bmD (L.drop (n + 1))), .var b3 3 [.int .i64 id], .var b4 3 [.int .i64 n], .var b5 155 [.map (some bm)], .raw Dk (.deferred (some []))] from S).perm (List.perm_append_comm (l₁ := [_, _, _, _, _]) (l₂ := [_]))
  exact Z71 (fun w' S' => ⟨_, Zh7 rfl rfl S' (i := 3) rfl, _, rfl, S'.below, by unfold Z3y; rw [hlc]⟩) [Dk] w2 S5

def Z5t (day due : Int) (c : GContract) : GPosting := ⟨1, day, c.Sponsor + 1, 0, due, c.ID, -1⟩
def Z39 (acc cl : Int) (L : List GPosting) (c : GContract) (due day : Int) : Option (List GPosting) :=
 if 0 ≤ Z3y L c.ID ∧ (nth L (Z3y L c.ID)).Amount ≠ due then (if Z38 acc cl L (Z3y L c.ID) day due = true then some (Z70 L (Z3y L c.ID) day due) else none)
 else if Z3y L c.ID < 0 ∧ 0 < due then (if Z3a acc cl L (Z5t day due c) = true then some (L ++ [Z5t day due c]) else none)
 else some L
def setL (acc cl day : Int) (f : GContract → Int) : List GContract → List GPosting → Option (List GPosting)
 | [], L => some L
 | c :: r, L => match Z39 acc cl L c (f c) day with | none => none | some L' => setL acc cl day f r L'
def strB (acc : Int) (l : List GContract) : Bool := l.any fun c => decide (acc ≤ c.Sponsor + 1)
def setI (acc cl : Int) (L : List GPosting) (l : List GContract) (sp : List GSpot) (day : Int) : Option (List GPosting) :=
 if (okI l sp && (Z2d acc cl L && !strB acc l)) = true then setL acc cl day (dueC (cntS l sp)) l L else none

theorem Z6i {L M : List GPosting} {i : Int} (h0 : 0 ≤ i) (hi : i < L.length) : nth (L ++ M) i = nth L i := by
 have h := Z1u (l := L ++ M) (i := i) h0 (by rw [List.length_append]; omega)
 rw [List.getElem?_append_left (by omega), Z1u h0 hi] at h
 exact (Option.some.inj h).symm
theorem Zbf {L : List GPosting} {p : GPosting} {i : Int} (hi : i = L.length) : nth (L ++ [p]) i = p := by
 have h := Z1u (l := L ++ [p]) (i := i) (by omega) (by rw [List.length_append]; simp; omega)
 rw [show i.toNat = L.length by omega, List.getElem?_append_right (by omega), Nat.sub_self] at h
 exact (Option.some.inj h).symm
theorem Z8p {a1 : Int} {L : List GPosting} {p : GPosting} : allT a1 (L ++ [p]) = (allT a1 L && Z3e a1 L p) := by
 unfold allT
 rw [List.length_append, List.length_singleton, List.range_succ, List.all_append]
 congr 1
 ·have e : ∀ i ∈ List.range L.length, Z3e a1 ((L ++ [p]).take i) (nth (L ++ [p]) (i : Int)) = Z3e a1 (L.take i) (nth L (i : Int)) := fun i hi => by
   have := List.mem_range.1 hi
   rw [List.take_append_of_le_length (by omega), Z6i (by omega) (by omega)]
  rw [Bool.eq_iff_iff, List.all_eq_true, List.all_eq_true]
  exact ⟨fun h i hi => by rw [← e i hi]; exact h i hi, fun h i hi => by rw [e i hi]; exact h i hi⟩
 ·simp only [List.all_cons, List.all_nil, Bool.and_true]
  rw [Zbf rfl, List.take_left' rfl]
theorem Zab {a1 : Int} {L : List GPosting} (h : allT a1 L = true) : L.length ≤ 200 := by
 by_cases e : L.length = 0
 ·omega
 ·have := Zdd h (j := (L.length : Int) - 1) (by omega) (by omega)
  unfold Z3e at this
  simp only [Bool.and_eq_true, decide_eq_true_eq, List.length_take] at this
  omega
theorem Zh8 {a1 : Int} {L : List GPosting} (h : allT a1 L = true) {j : Int} (h0 : 0 ≤ j) (hj : j < L.length) (hk : (nth L j).Kind = 3) : 0 ≤ (nth L j).Of ∧ (nth L j).Of < j := by
 have := Zdd h h0 hj
 unfold Z3e Z9p at this
 simp only [Bool.and_eq_true, Bool.or_eq_true, decide_eq_true_eq, List.length_take] at this
 have hf := Zkk this.2.1
 omega
theorem mem_at {L : List GPosting} {q : GPosting} (h : q ∈ L) : ∃ j : Int, 0 ≤ j ∧ j < L.length ∧ nth L j = q := by
 obtain ⟨j, hj⟩ := List.getElem?_of_mem h
 have hlt := (List.getElem?_eq_some_iff.1 hj).1
 refine ⟨j, by omega, by omega, ?_⟩
 have h2 := Z1u (l := L) (i := (j : Int)) (by omega) (by omega)
 rw [Int.toNat_natCast, hj] at h2
 exact (Option.some.inj h2).symm
theorem bkN_far {a1 : Int} {L : List GPosting} (h : allT a1 L = true) {i : Nat} (hi : L.length ≤ i) : bkN L i = false := by
 unfold bkN
 rw [List.any_eq_false]
 intro q hq
 obtain ⟨j, h0, h1, rfl⟩ := mem_at hq
 rw [decide_eq_true_iff]
 rintro ⟨hk, ho⟩
 have := Zh8 h h0 h1 hk
 omega
def stn (L : List GPosting) (i : Nat) : Bool := decide ((nth L (i : Int)).Kind ≠ 3) && !bkN L i
theorem Zfv {a1 : Int} {L : List GPosting} (h : allT a1 L = true) {id : Int} {n : Nat} : hitC L id n = (decide ((nth L (n : Int)).Subject = id) && stn L n) := by
 have e : ((L.drop (n + 1)).any fun q => decide (q.Kind = 3 ∧ q.Of = (n : Int))) = bkN L n := by
  cases hb : bkN L n with
  | false =>
   unfold bkN at hb
   rw [List.any_eq_false] at hb ⊢
   exact fun q hq => hb q (List.mem_of_mem_drop hq)
  | true =>
   unfold bkN at hb
   obtain ⟨q, hq, hd⟩ := List.any_eq_true.1 hb
   have hd' := of_decide_eq_true hd
   obtain ⟨j, h0, h1, rfl⟩ := mem_at hq
   have := Zh8 h h0 h1 hd'.1
   refine List.any_eq_true.2 ⟨nth L j, ?_, hd⟩
   have hg := Z1u h0 h1
   refine List.mem_of_getElem? (i := j.toNat - (n + 1)) ?_
   rw [List.getElem?_drop, show n + 1 + (j.toNat - (n + 1)) = j.toNat by omega]
   exact hg
 unfold hitC stn
 rw [e, ← Bool.and_assoc]
 congr 1
 by_cases h1 : (nth L (n : Int)).Kind = 3 <;> by_cases h2 : (nth L (n : Int)).Subject = id <;> simp [h1, h2]
theorem Zbg {L : List GPosting} {id : Int} : ∀ n : Nat, (chg L id n = -1 ∧ ∀ i, i < n → hitC L id i = false) ∨ (∃ k, k < n ∧ chg L id n = (k : Int) ∧ hitC L id k = true ∧ ∀ i, k < i → i < n → hitC L id i = false)
 | 0 => .inl ⟨rfl, fun i h => by omega⟩
 | n + 1 => by
  unfold chg
  cases h : hitC L id n with
  | true => exact .inr ⟨n, by omega, by rw [if_pos rfl], h, fun i h1 h2 => by omega⟩
  | false =>
   rw [if_neg (by simp)]
   rcases @Zbg L id n with ⟨h1, h2⟩ | ⟨k, hk, h1, h2, h3⟩
   ·exact .inl ⟨h1, fun i hi => by by_cases e : i = n; (subst e; exact h); exact h2 i (by omega)⟩
   ·exact .inr ⟨k, by omega, h1, h2, fun i h4 h5 => by by_cases e : i = n; (subst e; exact h); exact h3 i h4 (by omega)⟩
def Ch (L : List GPosting) (id s d : Int) : Prop :=
 (d = 0 ∧ ∀ i, i < L.length → stn L i = true → (nth L (i : Int)).Subject ≠ id) ∨
 (0 < d ∧ ∃ (k : Nat) (day : Int), k < L.length ∧ stn L k = true ∧ nth L (k : Int) = ⟨1, day, s + 1, 0, d, id, -1⟩ ∧ ∀ i, i < L.length → stn L i = true → (nth L (i : Int)).Subject = id → i = k)
theorem Zdh {a1 : Int} {L : List GPosting} (h : allT a1 L = true) {p : GPosting} (hp : p.Kind ≠ 3) {i : Nat} (hi : i < L.length) : stn (L ++ [p]) i = stn L i := by
 unfold stn; rw [Z6i (by omega) (by omega), ← Z8o hp]
theorem stn_new {a1 : Int} {L : List GPosting} (h : allT a1 L = true) {p : GPosting} (hp : p.Kind ≠ 3) : stn (L ++ [p]) L.length = true := by
 unfold stn
 rw [Zbf rfl, ← Z8o hp, bkN_far h (Nat.le_refl _), decide_eq_true hp]; rfl
theorem Zfw {L : List GPosting} {p : GPosting} (hp : p.Kind = 3) {i : Nat} (hi : i < L.length) : stn (L ++ [p]) i = (stn L i && !decide (p.Of = (i : Int))) := by
 unfold stn
 rw [Z6i (by omega) (by omega), Zdc, Bool.not_or, Bool.and_assoc]
 congr 2
 by_cases e : p.Of = (i : Int) <;> simp [e, hp]
theorem Zh9 {L : List GPosting} {p : GPosting} (hp : p.Kind = 3) : stn (L ++ [p]) L.length = false := by
 unfold stn
 rw [Zbf rfl, decide_eq_false (fun h => h hp)]; rfl
theorem Zkt {a1 : Int} {L : List GPosting} (h : allT a1 L = true) {id s d : Int} (hc : Ch L id s d) : (d = 0 ∧ Z3y L id = -1) ∨ (0 < d ∧ ∃ (k : Nat) (day : Int), k < L.length ∧ Z3y L id = (k : Int) ∧ stn L k = true ∧ nth L (k : Int) = ⟨1, day, s + 1, 0, d, id, -1⟩ ∧ ∀ i, i < L.length → stn L i = true → (nth L (i : Int)).Subject = id → i = k) := by
 have hcc := @Zbg L id L.length
 unfold Z3y
 rcases hc with ⟨h0, hn⟩ | ⟨h0, k, day, hk, hs, hp, hu⟩
 ·refine .inl ⟨h0, ?_⟩
  rcases hcc with ⟨h1, _⟩ | ⟨k, hk, h1, h2, _⟩
  ·exact h1
  ·rw [Zfv h, Bool.and_eq_true, decide_eq_true_eq] at h2
   exact absurd h2.1 (hn k hk h2.2)
 ·refine .inr ⟨h0, k, day, hk, ?_, hs, hp, hu⟩
  have hh : hitC L id k = true := by rw [Zfv h, hs, hp, decide_eq_true rfl]; rfl
  rcases hcc with ⟨h1, h2⟩ | ⟨k', hk', h1, h2, h3⟩
  ·rw [h2 k hk] at hh; cases hh
  ·rw [Zfv h, Bool.and_eq_true, decide_eq_true_eq] at h2
   rw [hu k' hk' h2.2 h2.1] at h1
   exact h1
theorem Zku {a1 : Int} {L : List GPosting} (h : allT a1 L = true) {p : GPosting} (hp : p.Kind ≠ 3) {id s d : Int} (he : p.Subject ≠ id) (hc : Ch L id s d) : Ch (L ++ [p]) id s d := by
 have hlen : (L ++ [p]).length = L.length + 1 := by simp
 have key : ∀ i, i < (L ++ [p]).length → stn (L ++ [p]) i = true → (nth (L ++ [p]) (i : Int)).Subject = id → i < L.length ∧ stn L i = true ∧ (nth L (i : Int)).Subject = id := fun i hi hs hb => by
  by_cases e : i = L.length
  ·subst e; rw [Zbf rfl] at hb; exact absurd hb he
  ·have hi' : i < L.length := by omega
   rw [Zdh h hp hi'] at hs
   rw [Z6i (by omega) (by omega)] at hb
   exact ⟨hi', hs, hb⟩
 rcases hc with ⟨h0, hn⟩ | ⟨h0, k, day, hk, hs, hpk, hu⟩
 ·exact .inl ⟨h0, fun i hi hs hb => by obtain ⟨a, b, c⟩ := key i hi hs hb; exact hn i a b c⟩
 ·exact .inr ⟨h0, k, day, by omega, by rw [Zdh h hp hk]; exact hs, by rw [Z6i (by omega) (by omega)]; exact hpk, fun i hi hs hb => by obtain ⟨a, b, c⟩ := key i hi hs hb; exact hu i a b c⟩
theorem ch_new {a1 : Int} {L : List GPosting} (h : allT a1 L = true) {id s d day : Int} (hd : 0 < d) (hc : Ch L id s 0) : Ch (L ++ [⟨1, day, s + 1, 0, d, id, -1⟩]) id s d := by
 rcases hc with ⟨_, hn⟩ | ⟨h0, _⟩
 ·refine .inr ⟨hd, L.length, day, by simp, stn_new h (show (1 : Int) ≠ 3 by decide), Zbf rfl, fun i hi hs hb => ?_⟩
  by_cases e : i = L.length
  ·exact e
  ·have hi' : i < L.length := by rw [List.length_append, List.length_singleton] at hi; omega
   rw [Zdh h (show (1 : Int) ≠ 3 by decide) hi'] at hs
   rw [Z6i (by omega) (by omega)] at hb
   exact absurd hb (hn i hi' hs)
 ·omega
theorem ch_rev {a1 : Int} {L : List GPosting} (h : allT a1 L = true) {p : GPosting} (hp : p.Kind = 3) {id s d : Int} (h0 : 0 ≤ p.Of) (hof : p.Of < L.length) (he : (nth L p.Of).Subject ≠ id) (hc : Ch L id s d) : Ch (L ++ [p]) id s d := by
 have hlen : (L ++ [p]).length = L.length + 1 := by simp
 have key : ∀ i, i < (L ++ [p]).length → stn (L ++ [p]) i = true → (nth (L ++ [p]) (i : Int)).Subject = id → i < L.length ∧ stn L i = true ∧ (nth L (i : Int)).Subject = id := fun i hi hs hb => by
  by_cases e : i = L.length
  ·subst e; rw [Zh9 hp] at hs; cases hs
  ·have hi' : i < L.length := by omega
   rw [Zfw hp hi', Bool.and_eq_true] at hs
   rw [Z6i (by omega) (by omega)] at hb
   exact ⟨hi', hs.1, hb⟩
 rcases hc with ⟨hd0, hn⟩ | ⟨hd0, k, day, hk, hs, hpk, hu⟩
 ·exact .inl ⟨hd0, fun i hi hs hb => by obtain ⟨a, b, c⟩ := key i hi hs hb; exact hn i a b c⟩
 ·refine .inr ⟨hd0, k, day, by omega, ?_, by rw [Z6i (by omega) (by omega)]; exact hpk, fun i hi hs hb => by obtain ⟨a, b, c⟩ := key i hi hs hb; exact hu i a b c⟩
  rw [Zfw hp hk, hs, decide_eq_false (fun e => he (by rw [e, hpk]))]; rfl
theorem ch_gone {L : List GPosting} {p : GPosting} (hp : p.Kind = 3) {id s : Int} {k : Nat} (hof : p.Of = (k : Int)) (hu : ∀ i, i < L.length → stn L i = true → (nth L (i : Int)).Subject = id → i = k) : Ch (L ++ [p]) id s 0 := by
 refine .inl ⟨rfl, fun i hi hs hb => ?_⟩
 by_cases e : i = L.length
 ·subst e; rw [Zh9 hp] at hs; cases hs
 ·have hi' : i < L.length := by rw [List.length_append, List.length_singleton] at hi; omega
  rw [Zfw hp hi', Bool.and_eq_true] at hs
  rw [Z6i (by omega) (by omega)] at hb
  have e2 := hu i hi' hs.1 hb
  rw [hof, e2, decide_eq_true rfl] at hs
  cases hs.2
theorem Zfx {a1 day : Int} {L : List GPosting} (hlen : L.length < 200) (hd : ∀ q ∈ L, q.Day ≤ day) {p : GPosting} (hpd : p.Day = day) (hf : fmP p a1 = true) (hr : Z9p L p = true) : Z3e a1 L p = true := by
 unfold Z3e
 rw [hf, hr, decide_eq_true hlen]
 have : Zel L p = true := by
  unfold Zel
  rw [decide_eq_true_iff]
  by_cases e : L.length = 0
  ·exact .inl e
  ·exact .inr (by rw [hpd]; exact hd _ (Z2e (by omega) (by omega)))
 rw [this]; rfl
theorem Zha {day s d id a1 : Int} (h : 0 ≤ day ∧ day ≤ 359) (hs : 0 ≤ s ∧ s + 1 ≤ a1) (hd : 0 < d ∧ d ≤ 1000000000000) (hid : 0 ≤ id ∧ id ≤ 999) : fmP ⟨1, day, s + 1, 0, d, id, -1⟩ a1 = true :=
 decide_eq_true ⟨h.1, h.2, (show 0 ≤ s + 1 by omega), hs.2, Int.le_refl _, (show 0 ≤ a1 by omega), (show s + 1 ≠ 0 by omega), (show 1 ≤ d by omega), hd.2, hid.1, hid.2, .inl ⟨.inl rfl, rfl⟩⟩
theorem fm_back {day s d id a1 k : Int} (h : 0 ≤ day ∧ day ≤ 359) (hs : 0 ≤ s ∧ s + 1 ≤ a1) (hd : 0 < d ∧ d ≤ 1000000000000) (hid : 0 ≤ id ∧ id ≤ 999) (hk : 0 ≤ k ∧ k ≤ 199) : fmP ⟨3, day, 0, s + 1, d, id, k⟩ a1 = true :=
 decide_eq_true ⟨h.1, h.2, Int.le_refl _, (show 0 ≤ a1 by omega), (show 0 ≤ s + 1 by omega), hs.2, (show 0 ≠ s + 1 by omega), (show 1 ≤ d by omega), hd.2, hid.1, hid.2, .inr ⟨rfl, hk.1, hk.2⟩⟩
theorem Zkv {acc cl a1 day due d : Int} {L : List GPosting} {c : GContract} (ha : IntKind.i64.wrap (acc - 1) = a1) (hacc : okAC acc cl = true) (hv : allT a1 L = true) (hlen : L.length + 2 ≤ 200) (hcl : 30 * cl ≤ day) (hd0 : 0 ≤ day ∧ day ≤ 359) (hday : ∀ q ∈ L, q.Day ≤ day)
  (hid : 0 ≤ c.ID ∧ c.ID ≤ 999) (hs : 0 ≤ c.Sponsor ∧ c.Sponsor + 1 ≤ a1) (hdue : 0 ≤ due ∧ due ≤ 1000000000000) (hc : Ch L c.ID c.Sponsor d) :
  ∃ E, Z39 acc cl L c due day = some (L ++ E) ∧ E.length ≤ 2 ∧ (∀ q ∈ E, q.Day = day) ∧ (d = due → E = []) ∧ allT a1 (L ++ E) = true ∧ Ch (L ++ E) c.ID c.Sponsor due ∧ ∀ id s d, id ≠ c.ID → Ch L id s d → Ch (L ++ E) id s d := by
 have hnone : d = due → (∃ E, some L = some (L ++ E) ∧ E.length ≤ 2 ∧ (∀ q ∈ E, q.Day = day) ∧ (d = due → E = []) ∧ allT a1 (L ++ E) = true ∧ Ch (L ++ E) c.ID c.Sponsor due ∧ ∀ id s d, id ≠ c.ID → Ch L id s d → Ch (L ++ E) id s d) := fun e =>
  ⟨[], by rw [List.append_nil], by simp, fun q h => (by cases h), fun _ => rfl, by rw [List.append_nil]; exact hv, by rw [List.append_nil, ← e]; exact hc, fun id s d _ h => by rw [List.append_nil]; exact h⟩
 have hbk : Z2d acc cl L = true := by unfold Z2d; rw [ha, hv, hacc]; rfl
 unfold Z39
 rcases Zkt hv hc with ⟨rfl, hk⟩ | ⟨hdp, k, dy, hkl, hk, hst, hpk, hu⟩
 ·rw [hk, if_neg (by omega)]
  by_cases hdz : 0 < due
  ·have hT : Z3e a1 L (Z5t day due c) = true := Zfx (by omega) hday rfl (Zha hd0 hs ⟨hdz, hdue.2⟩ hid) rfl
   have hp : Z3a acc cl L (Z5t day due c) = true := by unfold Z3a Z5d; rw [ha, hT, hbk, decide_eq_true (show 30 * cl ≤ (Z5t day due c).Day from hcl)]; rfl
   rw [if_pos ⟨by omega, hdz⟩, if_pos hp]
   refine ⟨[Z5t day due c], rfl, by simp, fun q h => (by cases List.mem_singleton.1 h; rfl), fun e => by omega, by rw [Z8p, hv, hT]; rfl, ch_new hv hdz hc, fun id s d hne h => Zku hv (show (1 : Int) ≠ 3 by decide) (fun e => hne e.symm) h⟩
  ·rw [if_neg (by omega)]
   exact hnone (by omega)
 ·rw [hk, hpk]
  by_cases e : d = due
  ·rw [if_neg (by simp only; omega), if_neg (by omega)]
   exact hnone e
  ·rw [if_pos ⟨by omega, by simpa using e⟩]
   have hb : Z4n L (k : Int) day = ⟨3, day, 0, c.Sponsor + 1, d, c.ID, k⟩ := by unfold Z4n; rw [hpk]
   have hn : newP L (k : Int) day due = ⟨1, day, c.Sponsor + 1, 0, due, c.ID, -1⟩ := by unfold newP; rw [hpk]
   have hdm : d ≤ 1000000000000 := by
    have h1 := Zdd hv (j := (k : Int)) (by omega) (by omega)
    unfold Z3e fmP at h1
    simp only [Bool.and_eq_true, decide_eq_true_eq, hpk] at h1
    omega
   have hbn : bkN L k = false := by unfold stn at hst; simp only [Bool.and_eq_true, Bool.not_eq_true'] at hst; exact hst.2
   have hT1 : Z3e a1 L (Z4n L (k : Int) day) = true := by
    rw [hb]
    have h1 : bkP ⟨3, day, 0, c.Sponsor + 1, d, c.ID, (k : Int)⟩ (nth L (k : Int)) = true := by rw [hpk]; exact decide_eq_true ⟨(show (1 : Int) ≠ 3 by decide), rfl, rfl, rfl, rfl⟩
    refine Zfx (by omega) hday rfl (fm_back hd0 hs ⟨hdp, hdm⟩ hid (by omega)) ?_
    unfold Z9p
    simp only [Int.toNat_natCast]
    rw [h1, hbn, decide_eq_true (show (k : Int) < (L.length : Int) by omega)]; simp
   have hP1 : Z5d a1 cl L (Z4n L (k : Int) day) = true := by unfold Z5d; rw [hT1, decide_eq_true (show 30 * cl ≤ (Z4n L (k : Int) day).Day from hcl)]; rfl
   have hv1 : allT a1 (L ++ [Z4n L (k : Int) day]) = true := by rw [Z8p, hv, hT1]; rfl
   have hgone : Ch (L ++ [Z4n L (k : Int) day]) c.ID c.Sponsor 0 := ch_gone rfl rfl hu
   have hoth : ∀ id s d, id ≠ c.ID → Ch L id s d → Ch (L ++ [Z4n L (k : Int) day]) id s d := fun id s d hne h => ch_rev hv rfl (by show (0 : Int) ≤ (k : Int); omega) (by show (k : Int) < _; omega) (by show (nth L (k : Int)).Subject ≠ id; rw [hpk]; exact fun e => hne e.symm) h
   have hA : argD L (k : Int) due = true := decide_eq_true ⟨by omega, by omega, hdue⟩
   by_cases hdz : 0 < due
   ·have hday1 : ∀ q ∈ L ++ [Z4n L (k : Int) day], q.Day ≤ day := fun q hq => by
     rcases List.mem_append.1 hq with h | h
     ·exact hday q h
     ·cases List.mem_singleton.1 h; exact Int.le_refl _
    have hT2 : Z3e a1 (L ++ [Z4n L (k : Int) day]) (newP L (k : Int) day due) = true := by
     rw [hn]
     exact Zfx (by simp; omega) hday1 rfl (Zha hd0 hs ⟨hdz, hdue.2⟩ hid) rfl
    have hP2 : Z5d a1 cl (L ++ [Z4n L (k : Int) day]) (newP L (k : Int) day due) = true := by unfold Z5d; rw [hT2, decide_eq_true (show 30 * cl ≤ (newP L (k : Int) day due).Day from hcl)]; rfl
    have hD : Z38 acc cl L (k : Int) day due = true := by unfold Z38; rw [ha, hbk, hA, hP1, hP2]; simp
    rw [if_pos hD]
    unfold Z70
    rw [if_pos hdz]
    refine ⟨[Z4n L (k : Int) day, newP L (k : Int) day due], by simp, by simp, fun q h => ?_, fun h => absurd h e, ?_, ?_, fun id s d hne h => ?_⟩
    ·rcases List.mem_cons.1 h with rfl | h
     ·rfl
     ·cases List.mem_singleton.1 h; rfl
    ·rw [List.append_cons, Z8p, hv1, hT2]; rfl
    ·rw [List.append_cons, hn]; exact ch_new hv1 hdz hgone
    ·rw [List.append_cons]; exact Zku hv1 (by rw [hn]; show (1 : Int) ≠ 3; decide) (by rw [hn]; exact fun e => hne e.symm) (hoth id s d hne h)
   ·have hD : Z38 acc cl L (k : Int) day due = true := by unfold Z38; rw [ha, hbk, hA, hP1, decide_eq_true (show due ≤ 0 by omega)]; simp
    rw [if_pos hD]
    unfold Z70
    rw [if_neg hdz]
    obtain rfl : due = 0 := by omega
    exact ⟨[Z4n L (k : Int) day], rfl, by simp, fun q h => (by cases List.mem_singleton.1 h; rfl), fun h => absurd h e, hv1, hgone, hoth⟩
theorem Zkw {acc cl a1 day : Int} {f g : GContract → Int} (ha : IntKind.i64.wrap (acc - 1) = a1) (hacc : okAC acc cl = true) (hcl : 30 * cl ≤ day) (hd0 : 0 ≤ day ∧ day ≤ 359) :
  ∀ (l : List GContract) (L : List GPosting), allT a1 L = true → L.length + 2 * l.length ≤ 200 → (∀ q ∈ L, q.Day ≤ day) → (l.Pairwise fun a b => a.ID ≠ b.ID) → (∀ c ∈ l, (0 ≤ c.ID ∧ c.ID ≤ 999) ∧ (0 ≤ c.Sponsor ∧ c.Sponsor + 1 ≤ a1) ∧ (0 ≤ f c ∧ f c ≤ 1000000000000)) → (∀ c ∈ l, Ch L c.ID c.Sponsor (g c)) →
   ∃ E, setL acc cl day f l L = some (L ++ E) ∧ E.length ≤ 2 * l.length ∧ (∀ q ∈ E, q.Day = day) ∧ ((∀ c ∈ l, g c = f c) → E = []) ∧ allT a1 (L ++ E) = true ∧ (∀ c ∈ l, Ch (L ++ E) c.ID c.Sponsor (f c)) ∧ ∀ id s d, (∀ c ∈ l, id ≠ c.ID) → Ch L id s d → Ch (L ++ E) id s d
 | [], L, hv, hlen, hday, _, _, hc => ⟨[], by rw [List.append_nil]; rfl, by simp, fun q h => (by cases h), fun _ => rfl, by rw [List.append_nil]; exact hv, fun c h => (by cases h), fun id s d _ h => by rw [List.append_nil]; exact h⟩
 | c :: r, L, hv, hlen, hday, hp, hb, hc => by
  rw [List.pairwise_cons] at hp
  rw [List.length_cons] at hlen
  obtain ⟨b1, b2, b3⟩ := hb c (List.mem_cons_self ..)
  obtain ⟨E, e1, e2, e3, e4, e5, e6, e7⟩ := Zkv ha hacc hv (by omega) hcl hd0 hday b1 b2 b3 (hc c (List.mem_cons_self ..))
  have hday1 : ∀ q ∈ L ++ E, q.Day ≤ day := fun q hq => by
   rcases List.mem_append.1 hq with h | h
   ·exact hday q h
   ·rw [e3 q h]; exact Int.le_refl _
  obtain ⟨F, f1, f2, f3, f4, f5, f6, f7⟩ := Zkw ha hacc hcl hd0 r (L ++ E) e5 (by rw [List.length_append]; omega) hday1 hp.2 (fun x hx => hb x (List.mem_cons_of_mem _ hx)) (fun x hx => e7 _ _ _ (hp.1 x hx).symm (hc x (List.mem_cons_of_mem _ hx)))
  refine ⟨E ++ F, ?_, by rw [List.length_append, List.length_cons]; omega, fun q hq => ?_, fun h => ?_, by rw [← List.append_assoc]; exact f5, fun x hx => ?_, fun id s d hne h => ?_⟩
  ·rw [setL, e1]; simp only; rw [f1, List.append_assoc]
  ·rcases List.mem_append.1 hq with h | h
   ·exact e3 q h
   ·exact f3 q h
  ·rw [e4 (h c (List.mem_cons_self ..)), f4 fun x hx => h x (List.mem_cons_of_mem _ hx)]; rfl
  ·rw [← List.append_assoc]
   rcases List.mem_cons.1 hx with rfl | hx
   ·exact f7 _ _ _ (fun y hy => hp.1 y hy) e6
   ·exact f6 x hx
  ·rw [← List.append_assoc]
   exact f7 id s d (fun x hx => hne x (List.mem_cons_of_mem _ hx)) (e7 id s d (hne c (List.mem_cons_self ..)) h)
end Go.Proofs.YtijnbpnficcpmaaDoor
