/- Merged texts: QM, QN, QO, LG. -/
import Derived.Test.YtijnbpnficcpmaaDoorMB1
import Derived.Test.YtijnbpnficcpmaaDoorMB2
set_option linter.unusedVariables false
set_option linter.unusedSimpArgs false
namespace Go.Proofs.YtijnbpnficcpmaaDoor
open Go Go.Gx Go.RowKit

section
variable {t s : Int} {w : List Int}
def gvN (t s : Int) (w : List Int) (p : Nat) (k : Nat) : Bool := decide ((k : Int) ∈ (Z36 t s w).take p)
def Zdj (t s : Int) (w : List Int) (p : Nat) (i b : Int) : Prop :=
 (b = -1 ∧ ∀ j : Int, 0 ≤ j → j < i → gvN t s w p j.toNat = true) ∨
 (0 ≤ b ∧ b < i ∧ gvN t s w p b.toNat = false ∧ ∀ j : Int, 0 ≤ j → j < i → gvN t s w p j.toNat = false → remW t s w j < remW t s w b ∨ remW t s w j = remW t s w b ∧ b ≤ j)
theorem Zla {p : Nat} : Zdj t s w p 0 (-1) := .inl ⟨rfl, fun j a b => by omega⟩
theorem Zil {p : Nat} {i b : Int} (h : Zdj t s w p i b) (hi : gvN t s w p i.toNat = true) : Zdj t s w p (i + 1) b := by
 rcases h with ⟨e, h⟩ | ⟨h0, h1, h2, h3⟩
 ·refine .inl ⟨e, fun j a b => ?_⟩
  by_cases ej : j = i
  ·subst ej; exact hi
  ·exact h j a (by omega)
 ·refine .inr ⟨h0, by omega, h2, fun j a b c => ?_⟩
  by_cases ej : j = i
  ·subst ej; rw [hi] at c; cases c
  ·exact h3 j a (by omega) c
theorem Zew {p : Nat} {i b : Int} (h0 : 0 ≤ i) (h : Zdj t s w p i b) (hi : gvN t s w p i.toNat = false) (hb : b < 0 ∨ remW t s w b < remW t s w i) : Zdj t s w p (i + 1) i := by
 refine .inr ⟨h0, by omega, hi, fun j a c d => ?_⟩
 by_cases ej : j = i
 ·subst ej; exact .inr ⟨rfl, Int.le_refl _⟩
 ·rcases h with ⟨e, h⟩ | ⟨k0, k1, k2, k3⟩
  ·have := h j a (by omega); rw [this] at d; cases d
  ·rcases hb with hb | hb
   ·omega
   ·rcases k3 j a (by omega) d with h | h <;> omega
theorem Zlb {p : Nat} {i b : Int} (h : Zdj t s w p i b) (hb0 : 0 ≤ b) (hb : remW t s w i ≤ remW t s w b) : Zdj t s w p (i + 1) b := by
 rcases h with ⟨e, h⟩ | ⟨k0, k1, k2, k3⟩
 ·omega
 ·refine .inr ⟨k0, by omega, k2, fun j a c d => ?_⟩
  by_cases ej : j = i
  ·subst ej; omega
  ·exact k3 j a (by omega) d
theorem Zlc {p : Nat} {b : Int} (hp : p < w.length) (h : Zdj t s w p w.length b) : nth (Z36 t s w) (p : Int) = b := by
 have hf := @Zc7 t s w p hp
 have hm := Z2e (l := Z36 t s w) (i := (p : Int)) (by omega) (by rw [Z4l]; omega)
 have hg := Z1u (l := Z36 t s w) (i := (p : Int)) (by omega) (by rw [Z4l]; omega)
 rw [Int.toNat_natCast] at hg
 obtain ⟨x, hx⟩ : ∃ x, nth (Z36 t s w) (p : Int) = x := ⟨_, rfl⟩
 rw [hx] at hf hm hg ⊢
 have hr := Z6v.1 hm
 have hgx : gvN t s w p x.toNat = false := by unfold gvN; rw [show ((x.toNat : Nat) : Int) = x by omega]; exact decide_eq_false hf
 have e : (Z36 t s w).take (p + 1) = (Z36 t s w).take p ++ [x] := by rw [List.take_add_one, hg]; rfl
 rcases h with ⟨_, h⟩ | ⟨k0, k1, k2, k3⟩
 ·have := h x hr.1 hr.2; rw [this] at hgx; cases hgx
 ·by_cases ex : x = b
  ·exact ex
  ·exfalso
   have h1 := k3 x hr.1 hr.2 hgx
   have hbn : b ∉ (Z36 t s w).take p := by
    intro h; unfold gvN at k2; rw [show ((b.toNat : Nat) : Int) = b by omega] at k2; exact of_decide_eq_false k2 h
   have h2 := @take_le t s w (p + 1) x b (by rw [e]; exact List.mem_append.2 (.inr (List.mem_singleton.2 rfl))) ⟨k0, k1⟩ (by rw [e]; intro h; rcases List.mem_append.1 h with h | h; exact hbn h; exact ex (List.mem_singleton.1 h).symm)
   omega
theorem gvN_step {p : Nat} {b : Int} (hp : p < w.length) (hb : nth (Z36 t s w) (p : Int) = b) : (fun k => if k = b.toNat then true else gvN t s w p k) = gvN t s w (p + 1) := by
 have hm := Z2e (l := Z36 t s w) (i := (p : Int)) (by omega) (by rw [Z4l]; omega)
 have hg := Z1u (l := Z36 t s w) (i := (p : Int)) (by omega) (by rw [Z4l]; omega)
 rw [Int.toNat_natCast] at hg
 rw [hb] at hm hg
 have hr := Z6v.1 hm
 have e : (Z36 t s w).take (p + 1) = (Z36 t s w).take p ++ [b] := by rw [List.take_add_one, hg]; rfl
 funext k
 unfold gvN
 rw [e]
 by_cases hk : k = b.toNat
 ·rw [if_pos hk]; exact (decide_eq_true (List.mem_append.2 (.inr (List.mem_singleton.2 (by omega))))).symm
 ·rw [if_neg hk]
  refine decide_eq_decide.2 ⟨fun h => List.mem_append.2 (.inl h), fun h => ?_⟩
  rcases List.mem_append.1 h with h | h
  ·exact h
  ·exact absurd (List.mem_singleton.1 h) (by omega)
end
def tabG (f : Nat → Bool) (n : Nat) : List Bool := (List.range n).map f
theorem Zhl {f : Nat → Bool} {n : Nat} : (tabG f n).length = n := by simp [tabG]
theorem tabG_nth {f : Nat → Bool} {n : Nat} {j : Int} (h0 : 0 ≤ j) (hj : j < n) : nth (tabG f n) j = f j.toNat := by
 have h := Z1u (l := tabG f n) (i := j) h0 (by rw [Zhl]; exact hj)
 unfold tabG at h
 rw [List.getElem?_map, List.getElem?_range (by omega)] at h
 exact (Option.some.inj h).symm
theorem tabG_set {f : Nat → Bool} {n : Nat} {j : Int} {b : Bool} (h0 : 0 ≤ j) (hj : j < n) : (tabG f n).set j.toNat b = tabG (fun k => if k = j.toNat then b else f k) n := by
 apply List.ext_getElem?
 intro k
 unfold tabG
 rw [List.getElem?_set]
 by_cases e : j.toNat = k
 ·rw [if_pos e, if_pos (by simp; omega), List.getElem?_map, List.getElem?_range (by omega), Option.map_some, if_pos e.symm]
 ·rw [if_neg e, List.getElem?_map, List.getElem?_map]
  by_cases hk : k < n
  ·rw [List.getElem?_range hk, Option.map_some, Option.map_some, if_neg (fun h => e h.symm)]
  ·rw [List.getElem?_eq_none (by simp; omega)]; rfl
theorem tabG_nil {t s : Int} {w : List Int} {n : Nat} : List.replicate n false = tabG (gvN t s w 0) n := by
 unfold tabG
 rw [show (gvN t s w 0 : Nat → Bool) = fun _ => false from funext fun k => by unfold gvN; simp]
 simp [List.map_const']
set_option maxHeartbeats 2000000 in
theorem Zbp {t : Int} {ws : List Int} {v : Value} {w0 : World} (hr : Rd (fInt .i64).ty w0 v ws) (hl : ws.length ≤ 1000000000) :
  CallsR Tryd.prog 28 #[.int .i64 t, v] w0 (RowE w0 (shI t ws)) := by
 have S := St.start w0
 obtain ⟨A, c, rfl⟩ := hr.len
 refine CallsR.mk ?_
 refine Z0l Tryd.func28 rfl (by intro _ h; first | exact nomatch h.1 | (obtain ⟨_, h, _⟩ := h; exact nomatch h)) Tryd.ntmps28 rfl ?_
 cases htb : inR t 0 1000000000000 with
 | false =>
  have e := Z9i (okSh_t (ws := ws) htb)
  repeat' (first | refine Z0a ?_ | refine Z02 ?_ | refine Z08 ?_ | refine Z01 ?_ | refine Z0x ?_ | refine Z0r ?_ | refine Z0v rfl ?_ | (refine Z1c ?_; refine Z1p rfl ?_) | refine Z06 rfl ?_ | refine Z04 rfl ?_ | refine Z0u rfl rfl ?_ | refine Z00 rfl (Z1w rfl) ?_ | ((refine Z0j rfl (Z1t rfl rfl rfl rfl) (Z4d htb) ?_; intro w hb; replace S := S.grow hb; clear hb)))
  exact end2 rfl rfl rfl ⟨_, rfl, S.below, _, by rw [e]; rfl, by rw [e]; exact Z2u.nil _ _ _ _⟩
 | true =>
 have ht : 0 ≤ t ∧ t ≤ 1000000000000 := of_decide_eq_true htb
 cases hn : inR ws.length 1 16 with
 | false =>
  have e := Z9i (t := t) (ws := ws) (by
   unfold inR at hn
   have hn := of_decide_eq_false hn
   rcases Nat.eq_zero_or_pos ws.length with h | h
   ·exact Zk1 (by unfold sumW; rw [h]; rfl)
   ·exact Zgy (Zd6 (i := 0) (by omega) (by omega) (.inr (by omega))))
  repeat' (first | refine Z0a ?_ | refine Z02 ?_ | refine Z08 ?_ | refine Z01 ?_ | refine Z0x ?_ | refine Z0r ?_ | refine Z0v rfl ?_ | refine Z06 rfl ?_ | refine Z04 rfl ?_ | refine Z0t rfl rfl ?_ | refine Z00 rfl (Z1w rfl) ?_ | refine Z00 rfl (Z0e rfl) ?_ | (first | (refine Z0j rfl (Z1t rfl rfl rfl rfl) (Z4d htb) ?_; intro w hb; replace S := S.grow hb; clear hb) | (refine Z0j rfl (Z1t rfl rfl rfl rfl) (Z4d hn) ?_; intro w hb; replace S := S.grow hb; clear hb)))
  exact end2 rfl rfl rfl ⟨_, rfl, S.below, _, by rw [e]; rfl, by rw [e]; exact Z2u.nil _ _ _ _⟩
 | true =>
 have hnn : (1 : Int) ≤ ws.length ∧ (ws.length : Int) ≤ 16 := of_decide_eq_true hn
 repeat' (first | refine Z0a ?_ | refine Z02 ?_ | refine Z08 ?_ | refine Z01 ?_ | refine Z0k ?_ | refine Z0f ?_ | refine Z18 rfl ?_ | refine Z06 rfl ?_ | refine Z04 rfl ?_ | refine Z0t rfl rfl ?_ | refine Z00 rfl (Z1w rfl) ?_ | refine Z00 rfl (Z0e rfl) ?_ | (first | (refine Z0j rfl (Z1t rfl rfl rfl rfl) (Z4d htb) ?_; intro w hb; replace S := S.grow hb; clear hb) | (refine Z0j rfl (Z1t rfl rfl rfl rfl) (Z4d hn) ?_; intro w hb; replace S := S.grow hb; clear hb)))
 refine Z1l (fun m σ w1 => ∃ (i : Int), Has σ [(0, .int .i64 t), (1, .slice A ws.length c), (6, .int .i64 (sumN (fun k => nth ws (k : Int)) i.toNat)), (7, .int .i64 i)] ∧ St w0 w1 [] ∧ 0 ≤ i ∧ i ≤ ws.length ∧ (∀ j : Int, 0 ≤ j → j < i → inR (nth ws j) 0 1000000 = true) ∧ m = ws.length - i.toNat) ws.length ⟨0, ⟨rfl, rfl, rfl, rfl, trivial⟩, S, by omega, by omega, fun j p q => by omega, by omega⟩ ?_
 clear S
 rintro m σ w1 ⟨i, hs, S, hi0, hi1, hall, rfl⟩
 refine Z1o hs ?_
 have hsb := @Zc9 (fun k => nth ws (k : Int)) i.toNat fun k hk => of_decide_eq_true (hall k (by omega) (by omega))
 by_cases hi : i < ws.length
 ·cases hb : inR (nth ws i) 0 1000000 with
  | false =>
   have e := Z9i (Zgy (t := t) (Zd6 hi0 hi (.inl hb)))
   repeat' (first | refine Z0a ?_ | refine Z02 ?_ | refine Z08 ?_ | refine Z01 ?_ | refine Z0x ?_ | refine Z27 ?_ | refine Z0r ?_ | refine Z0k ?_ | refine Z0f ?_ | refine Z0v rfl ?_ | refine Z06 rfl ?_ | refine Z04 rfl ?_ | refine Z00 rfl (Z0z rfl rfl) ?_ | refine Z00 rfl (Z1w rfl) ?_ | refine Z00 rfl (Z0e rfl) ?_ | ((refine Z00 rfl (Z07 (hr.mono S.below) rfl rfl ?_ ?_) ?_; (first | omega | simp <;> omega); (first | omega | simp <;> omega))) | ((refine Z00 rfl (Z0i (hr.mono S.below) rfl ?_ ?_ rfl) ?_; (first | omega | simp <;> omega); (first | omega | simp <;> omega))) | ((refine Z0j rfl (Z1t rfl rfl rfl rfl) (Z4d hb) ?_; intro w hb; replace S := S.grow hb; clear hb)) | (refine Z0g rfl (fun h => ?_) (fun h => ?_) <;> (fail_if_success first | have := ntT h | have := ntF h) <;> (try simp only [tdyB] at h) <;> (try (exfalso; omega))))
   exact end2 rfl rfl rfl ⟨_, rfl, S.below, _, by rw [e]; rfl, by rw [e]; exact Z2u.nil _ _ _ _⟩
  | true =>
   have hbb : 0 ≤ nth ws i ∧ nth ws i ≤ 1000000 := of_decide_eq_true hb
   repeat' (first | refine Z0a ?_ | refine Z02 ?_ | refine Z08 ?_ | refine Z01 ?_ | refine Z0h ?_ | refine Z0k ?_ | refine Z0f ?_ | refine Z18 rfl ?_ | refine Z06 rfl ?_ | refine Z04 rfl ?_ | ((refine Z00 rfl (Z12 rfl rfl ?_ ?_) ?_; (first | omega | simp <;> omega); (first | omega | simp <;> omega))) | refine Z00 rfl (Z0z rfl rfl) ?_ | refine Z00 rfl (Z1w rfl) ?_ | refine Z00 rfl (Z0e rfl) ?_ | ((refine Z00 rfl (Z07 (hr.mono S.below) rfl rfl ?_ ?_) ?_; (first | omega | simp <;> omega); (first | omega | simp <;> omega))) | ((refine Z00 rfl (Z0i (hr.mono S.below) rfl ?_ ?_ rfl) ?_; (first | omega | simp <;> omega); (first | omega | simp <;> omega))) | ((refine Z0j rfl (Z1t rfl rfl rfl rfl) (Z4d hb) ?_; intro w hb; replace S := S.grow hb; clear hb)) | (refine Z0g rfl (fun h => ?_) (fun h => ?_) <;> (fail_if_success first | have := ntT h | have := ntF h) <;> (try simp only [tdyB] at h) <;> (try (exfalso; omega))))
   refine ⟨⟨_, ?_, i + 1, ⟨rfl, rfl, ?_, rfl, trivial⟩, S, by omega, by omega, fun j p q => ?_, rfl⟩⟩
   ·omega
   ·rw [show (i + 1).toNat = i.toNat + 1 by omega, sumN, show ((i.toNat : Nat) : Int) = i by omega]
    rfl
   ·by_cases e : j = i
    ·subst e; exact hb
    ·exact hall j p (by omega)
 have hit : i.toNat = ws.length := by omega
 rw [hit] at hs hsb
 obtain ⟨s, hse⟩ : ∃ s, sumW ws = s := ⟨_, rfl⟩
 rw [show sumN (fun k => nth ws (k : Int)) ws.length = s from hse] at hsb
 rw [hit, show sumN (fun k => nth ws (k : Int)) ws.length = s from hse]
 by_cases hs0 : s = 0
 ·have e := Z9i (Zk1 (t := t) (hse.trans hs0))
  repeat' (first | refine Z0a ?_ | refine Z02 ?_ | refine Z08 ?_ | refine Z01 ?_ | refine Z0s ?_ | refine Z15 ?_ | refine Z0x ?_ | refine Z0r ?_ | refine Z1b ?_ | refine Z06 rfl ?_ | refine Z04 rfl ?_ | refine Z00 rfl (Z2k rfl rfl) ?_ | refine Z00 rfl (Z0z rfl rfl) ?_ | refine Z00 rfl (Z0e rfl) ?_ | (refine Z0g rfl (fun h => ?_) (fun h => ?_) <;> (fail_if_success first | have := ntT h | have := ntF h) <;> (try simp only [tdyB] at h) <;> (try (exfalso; omega)) <;> (try (exfalso; exact absurd hs0 (by simpa using h); done))))
  exact end2 rfl rfl rfl ⟨_, rfl, S.below, _, by rw [e]; rfl, by rw [e]; exact Z2u.nil _ _ _ _⟩
 have hspos : 0 < s := by omega
 have hok : okWs ws = true := Zjz (by omega) fun j p q => hall j p (by omega)
 have e : shI t ws = (shP t s ws (Zbu t s ws).toNat, 0) := by
  unfold shI okSh
  rw [hok, htb, decide_eq_true (by rw [hse]; exact hs0)]
  unfold shW
  rw [hse]; rfl
 rw [e]
 clear e hs
 repeat' (first | refine Z0a ?_ | refine Z02 ?_ | refine Z08 ?_ | refine Z01 ?_ | refine Z0s ?_ | refine Z15 ?_ | refine Z0k ?_ | refine Z1b ?_ | refine Z0f ?_ | refine Z06 rfl ?_ | refine Z04 rfl ?_ | refine Z00 rfl (Z2k rfl rfl) ?_ | refine Z00 rfl (Z0z rfl rfl) ?_ | refine Z00 rfl (Z0e rfl) ?_ | (refine Z0g rfl (fun h => ?_) (fun h => ?_) <;> (fail_if_success first | have := ntT h | have := ntF h) <;> (try simp only [tdyB] at h) <;> (try (exfalso; omega)) <;> (try (exfalso; exact absurd (by simpa using h) hs0; done))))
 replace S := S.nilRow (fInt .i64) 3
 have hqr := fun (k : Nat) (hk : k < ws.length) => Zd8 hok ht hse hspos hk
 have hlr := @Zgt t s ws hspos hse.symm
 refine Z1l (fun m σ w1 => ∃ (i : Nat) (p : Int) (vo : Value), Has σ [(0, .int .i64 t), (1, .slice A ws.length c), (6, .int .i64 s), (8, vo), (9, .int .i64 (t - sumN (fun k => quoW t s ws k) i)), (10, .int .i64 p)] ∧ St w0 w1 [Z16 (fInt .i64) 3 vo (tab (fun k => quoW t s ws k) i)] ∧ p = i ∧ i ≤ ws.length ∧ m = ws.length - i) ws.length ⟨0, 0, _, ⟨rfl, rfl, rfl, rfl, ?_, rfl, trivial⟩, S, rfl, by omega, by omega⟩ ?_
 ·show Value.int .i64 t = Value.int .i64 (t - 0); rw [Int.sub_zero]
 clear S
 rintro m σ w1 ⟨i, p, vo, hs, S, hp, hi1, rfl⟩
 refine Z1o hs ?_
 have hsq := @Zd7 (fun k => quoW t s ws k) i 1000000000000 fun k hk => hqr k (by omega)
 by_cases hi : i < ws.length
 ·have hm := Z67 ht (Z6h hok (i := p) (by omega) (by omega))
  have hq := hqr i hi
  rw [← hp] at hq
  have hq' := hq
  unfold quoW at hq'
  have hol := @Z2s (fun k => quoW t s ws k) i
  have hn1 : nth (tab (fun k => quoW t s ws k) i ++ [quoW t s ws p]) p = quoW t s ws p := by
   rw [hp]; unfold nth; rw [List.getD_eq_getElem?_getD, List.getElem?_append_right (by omega), hol]; simp
  have hl1 : (tab (fun k => quoW t s ws k) i ++ [quoW t s ws p]).length = i + 1 := by simp [hol]
  repeat' (first | refine Z0a ?_ | refine Z02 ?_ | refine Z08 ?_ | refine Z01 ?_ | refine Z0k ?_ | refine Z0f ?_ | refine Z06 rfl ?_ | ((refine Z00 rfl (Z5f rfl rfl ?_ ?_) ?_; (first | omega | simp <;> omega); (first | omega | simp <;> omega))) | ((refine Z00 rfl (Z7h rfl rfl ?_ ?_ ?_) ?_; (first | omega | simp <;> omega); (first | omega | simp <;> omega); (first | omega | simp <;> omega))) | refine Z00 rfl (Z0z rfl rfl) ?_ | refine Z00 rfl (Z0e rfl) ?_ | ((refine Z00 rfl (Z07 (hr.mono S.below) rfl rfl ?_ ?_) ?_; (first | omega | simp <;> omega); (first | omega | simp <;> omega))) | ((refine Z00 rfl (Z0i (hr.mono S.below) rfl ?_ ?_ rfl) ?_; (first | omega | simp <;> omega); (first | omega | simp <;> omega))) | (refine Z0g rfl (fun h => ?_) (fun h => ?_) <;> (fail_if_success first | have := ntT h | have := ntF h) <;> (try simp only [tdyB] at h) <;> (try (exfalso; omega))))
  refine Z0n rfl (Z2z (D := fInt .i64) [quoW t s ws p] (Value.int .i64) S rfl rfl (fun _ => rfl) rfl (by decide) (by decide)) ?_
  rintro _ w ⟨bl, rfl, -, hcl, S'⟩; replace S := S'; clear S'
  refine Z0n rfl (Z2t (D := fInt .i64) (i := 0) (b := bl) (x := quoW t s ws p) S rfl rfl rfl (Z53 hcl) rfl (by decide) (by intro u hu; cases List.mem_singleton.1 hu; rfl) (by omega) (by omega)) ?_
  rintro vo' w ⟨-, S'⟩; replace S := S'; clear S' hcl
  replace S := S.keep [true]
  replace S : St w0 w [Z16 (fInt .i64) 3 vo' (tab (fun k => quoW t s ws k) i ++ [quoW t s ws p])] := S
  repeat' (first | refine Z02 ?_ | refine Z08 ?_ | refine Z01 ?_ | refine Z0h ?_ | refine Z06 rfl ?_ | refine Z04 rfl ?_ | ((refine Z00 rfl (Z12 rfl rfl ?_ ?_) ?_; (first | omega | simp <;> omega); (first | omega | simp <;> omega))) | ((refine Z00 rfl (Z24 rfl rfl ?_ ?_) ?_; (first | omega | simp <;> omega); (first | omega | simp <;> omega))) | ((refine Z00 rfl (Z07 (S.rdRow (D := (fInt .i64)) (i := 0) rfl) rfl rfl ?_ ?_) ?_; (first | omega | simp <;> omega); (first | omega | simp <;> omega))) | ((refine Z00 rfl (Z0i (S.rdRow (D := (fInt .i64)) (i := 0) rfl) rfl ?_ ?_ rfl) ?_; (first | omega | simp <;> omega); (first | omega | simp <;> omega))))
  refine ⟨⟨_, ?_, i + 1, _, vo', ⟨rfl, rfl, rfl, rfl, ?_, rfl, trivial⟩, by rw [tab_succ, ← hp]; exact S, by omega, by omega, rfl⟩⟩
  ·omega
  ·show Value.int .i64 (_ - _) = _
   rw [hn1, sumN, ← hp]
   congr 1
   omega
 have hil : i = ws.length := by omega
 subst hil
 rw [show t - sumN (fun k => quoW t s ws k) ws.length = Zbu t s ws from rfl]
 obtain ⟨L, hL⟩ : ∃ L, Zbu t s ws = L := ⟨_, rfl⟩
 rw [hL] at hlr ⊢
 rw [← Zgv] at S
 clear hs hsq
 repeat' (first | refine Z0a ?_ | refine Z02 ?_ | refine Z08 ?_ | refine Z01 ?_ | refine Z0s ?_ | refine Z15 ?_ | refine Z1b ?_ | refine Z06 rfl ?_ | refine Z00 rfl (Z0z rfl rfl) ?_ | refine Z00 rfl (Z0e rfl) ?_ | (refine Z0g rfl (fun h => ?_) (fun h => ?_) <;> (fail_if_success first | have := ntT h | have := ntF h) <;> (try simp only [tdyB] at h) <;> (try (exfalso; omega))))
 refine Z0n rfl (Z5o (D := Z4q) (m := ws.length) false S rfl rfl rfl (by decide) (by omega) (by omega)) ?_
 rintro vb w ⟨b3, hvb, -, S'⟩; replace S := S'; clear S'
 rw [tabG_nil (t := t) (s := s) (w := ws)] at S
 repeat' (first | refine Z0a ?_ | refine Z08 ?_ | refine Z01 ?_ | refine Z0f ?_ | refine Z04 rfl ?_)
 refine Z1l (fun m σ w1 => ∃ (p : Nat) (q : Int), Has σ [(0, .int .i64 t), (1, .slice A ws.length c), (6, .int .i64 s), (8, vo), (9, .int .i64 q), (11, vb)] ∧ St w0 w1 [Z16 (fInt .i64) 3 vo (shP t s ws p), Z16 Z4q 4 vb (tabG (gvN t s ws p) ws.length)] ∧ q = L - p ∧ (p : Int) ≤ L ∧ m = L.toNat - p) L.toNat ⟨0, L, ⟨rfl, rfl, rfl, rfl, rfl, rfl, trivial⟩, S, by omega, by omega, by omega⟩ ?_
 clear S
 rintro m σ w1 ⟨p, q, hs, S, hq, hpL, hm⟩
 refine Z1o hs ?_
 have hgl := @Zhl (gvN t s ws p) ws.length
 by_cases hp : p < L
 ·repeat' (first | refine Z0a ?_ | refine Z02 ?_ | refine Z08 ?_ | refine Z01 ?_ | refine Z0k ?_ | refine Z0f ?_ | refine Z06 rfl ?_ | refine Z04 rfl ?_ | refine Z00 rfl (Z2o rfl rfl) ?_ | (refine Z0g rfl (fun h => ?_) (fun h => ?_) <;> (fail_if_success first | have := ntT h | have := ntF h) <;> (try simp only [tdyB] at h) <;> (try (exfalso; omega))))
  refine Z1l (fun m σ w1 => ∃ (i b : Int), Has σ [(0, .int .i64 t), (1, .slice A ws.length c), (6, .int .i64 s), (8, vo), (9, .int .i64 q), (11, vb), (12, .int .i64 b), (13, .int .i64 i)] ∧ St w0 w1 [Z16 (fInt .i64) 3 vo (shP t s ws p), Z16 Z4q 4 vb (tabG (gvN t s ws p) ws.length)] ∧ Zdj t s ws p i b ∧ -1 ≤ b ∧ b < i ∧ 0 ≤ i ∧ i ≤ ws.length ∧ m = ws.length - i.toNat) ws.length ⟨0, -1, ⟨rfl, rfl, rfl, rfl, rfl, rfl, rfl, rfl, trivial⟩, S, Zla, by omega, by omega, by omega, by omega, by omega⟩ ?_
  clear S hs
  rintro m' σ w1 ⟨i, b, hs, S, hB, hb1, hbi, hi0, hi1, hm'⟩
  refine Z1o hs ?_
  by_cases hi : i < ws.length
  ·have hgn := tabG_nth (f := gvN t s ws p) (n := ws.length) hi0 hi
   have hmi := Z67 ht (Z6h hok hi0 hi)
   cases hg : gvN t s ws p i.toNat with
   | true =>
    rw [hg] at hgn
    repeat' (first | refine Z0a ?_ | refine Z02 ?_ | refine Z08 ?_ | refine Z01 ?_ | refine Z0h ?_ | refine Z0k ?_ | refine Z0f ?_ | refine Z18 rfl ?_ | refine Z1s (by kernel_rfl) (by kernel_rfl) ?_ | (refine Z1q ?_; intro w hb; replace S := S.grow hb; clear hb) | refine Z06 rfl ?_ | refine Z04 rfl ?_ | ((refine Z00 rfl (Z12 rfl rfl ?_ ?_) ?_; (first | omega | simp <;> omega); (first | omega | simp <;> omega))) | refine Z00 rfl (Z0z rfl rfl) ?_ | refine Z00 rfl (Z0e rfl) ?_ | (refine Z2y ?_; refine Z5l rfl ?_) | (refine Z1e ?_; refine Z1r rfl ?_) | (refine Z2a ?_; refine Z31 rfl rfl ?_) | (refine Z4o ?_; refine Z0c rfl (fun w' hb => Z1w rfl) ?_) | (refine Z0q ?_; (refine Z0c rfl (fun w' hb => Z07 ((S.grow hb).rdRow (D := Z4q) (i := 1) rfl) rfl rfl ?_ ?_) ?_; (first | omega | simp <;> omega); (first | omega | simp <;> omega))) | (refine Z1f ?_; (refine Z0c rfl (fun w' hb => Z0i ((S.grow hb).rdRow (D := Z4q) (i := 1) rfl) rfl ?_ ?_ rfl) ?_; (first | omega | simp <;> omega); (first | omega | simp <;> omega))) | (refine Z21 rfl rfl (fun h => ?_) (fun h => ?_) <;> (fail_if_success first | have := ntT h | have := ntF h) <;> (try simp only [tdyB] at h) <;> (try (exfalso; omega)) <;> (try (exfalso; first | omega | (simp [hgn] at h; done); done))) | (refine Z0g rfl (fun h => ?_) (fun h => ?_) <;> (fail_if_success first | have := ntT h | have := ntF h) <;> (try simp only [tdyB] at h) <;> (try (exfalso; omega)) <;> (try (exfalso; first | omega | (simp [hgn] at h; done); done))))
    refine ⟨⟨_, ?_, i + 1, b, ⟨rfl, rfl, rfl, rfl, rfl, rfl, rfl, rfl, trivial⟩, S, Zil hB hg, hb1, by omega, by omega, by omega, rfl⟩⟩
    omega
   | false =>
    rw [hg] at hgn
    by_cases hb0 : b < 0
    ·repeat' (first | refine Z0a ?_ | refine Z02 ?_ | refine Z08 ?_ | refine Z01 ?_ | refine Z0h ?_ | refine Z0k ?_ | refine Z0f ?_ | refine Z0v rfl ?_ | refine Z1s (by kernel_rfl) (by kernel_rfl) ?_ | (refine Z1q ?_; intro w hb; replace S := S.grow hb; clear hb) | refine Z06 rfl ?_ | refine Z04 rfl ?_ | ((refine Z00 rfl (Z12 rfl rfl ?_ ?_) ?_; (first | omega | simp <;> omega); (first | omega | simp <;> omega))) | refine Z00 rfl (Z0z rfl rfl) ?_ | refine Z00 rfl (Z0e rfl) ?_ | (refine Z2y ?_; refine Z5l rfl ?_) | (refine Z1e ?_; refine Z1r rfl ?_) | (refine Z2a ?_; refine Z2j rfl rfl ?_) | (refine Z2l ?_; refine Z0c rfl (fun w' hb => Z0z rfl rfl) ?_) | (refine Z4o ?_; refine Z0c rfl (fun w' hb => Z1w rfl) ?_) | (refine Z0q ?_; (refine Z0c rfl (fun w' hb => Z07 ((S.grow hb).rdRow (D := Z4q) (i := 1) rfl) rfl rfl ?_ ?_) ?_; (first | omega | simp <;> omega); (first | omega | simp <;> omega))) | (refine Z1f ?_; (refine Z0c rfl (fun w' hb => Z0i ((S.grow hb).rdRow (D := Z4q) (i := 1) rfl) rfl ?_ ?_ rfl) ?_; (first | omega | simp <;> omega); (first | omega | simp <;> omega))) | (refine Z21 rfl rfl (fun h => ?_) (fun h => ?_) <;> (fail_if_success first | have := ntT h | have := ntF h) <;> (try simp only [tdyB] at h) <;> (try (exfalso; omega)) <;> (try (exfalso; first | omega | (simp [hgn] at h; done); done))) | (refine Z0g rfl (fun h => ?_) (fun h => ?_) <;> (fail_if_success first | have := ntT h | have := ntF h) <;> (try simp only [tdyB] at h) <;> (try (exfalso; omega)) <;> (try (exfalso; first | omega | (simp [hgn] at h; done); done))))
     refine ⟨⟨_, ?_, i + 1, i, ⟨rfl, rfl, rfl, rfl, rfl, rfl, rfl, rfl, trivial⟩, S, Zew hi0 hB hg (.inl hb0), by omega, by omega, by omega, by omega, rfl⟩⟩
     omega
    ·have hmb := Z67 ht (Z6h hok (i := b) (by omega) (by omega))
     by_cases hrr : remW t s ws b < remW t s ws i
     ·have hrr' := hrr
      unfold remW at hrr'
      repeat' (first | refine Z0a ?_ | refine Z02 ?_ | refine Z08 ?_ | refine Z01 ?_ | refine Z0h ?_ | refine Z0k ?_ | refine Z0f ?_ | refine Z1s (by kernel_rfl) (by kernel_rfl) ?_ | (refine Z1q ?_; intro w hb; replace S := S.grow hb; clear hb) | refine Z06 rfl ?_ | refine Z04 rfl ?_ | ((refine Z00 rfl (Z12 rfl rfl ?_ ?_) ?_; (first | omega | simp <;> omega); (first | omega | simp <;> omega))) | refine Z00 rfl (Z0z rfl rfl) ?_ | refine Z00 rfl (Z0e rfl) ?_ | (refine Z1e ?_; refine Z1r rfl ?_) | (refine Z2a ?_; first | refine Z2j rfl rfl ?_ | refine Z31 rfl rfl ?_) | (refine Z75 ?_; (refine Z0c rfl (fun w' hb => Z5f rfl rfl ?_ ?_) ?_; (first | omega | simp <;> omega); (first | omega | simp <;> omega))) | (refine Z9s ?_; (refine Z0c rfl (fun w' hb => Z7i rfl rfl ?_ ?_) ?_; (first | omega | simp <;> omega); (first | omega | simp <;> omega))) | (refine Z2l ?_; refine Z0c rfl (fun w' hb => Z0z rfl rfl) ?_) | (refine Z2w ?_; refine Z0c rfl (fun w' hb => Z2o rfl rfl) ?_) | (refine Z4o ?_; refine Z0c rfl (fun w' hb => Z1w rfl) ?_) | (refine Z0q ?_; first | (refine Z0c rfl (fun w' hb => Z07 (hr.mono (S.grow hb).below) rfl rfl ?_ ?_) ?_; (first | omega | simp <;> omega); (first | omega | simp <;> omega)) | (refine Z0c rfl (fun w' hb => Z07 ((S.grow hb).rdRow (D := Z4q) (i := 1) rfl) rfl rfl ?_ ?_) ?_; (first | omega | simp <;> omega); (first | omega | simp <;> omega))) | (refine Z1f ?_; first | (refine Z0c rfl (fun w' hb => Z0i (hr.mono (S.grow hb).below) rfl ?_ ?_ rfl) ?_; (first | omega | simp <;> omega); (first | omega | simp <;> omega)) | (refine Z0c rfl (fun w' hb => Z0i ((S.grow hb).rdRow (D := Z4q) (i := 1) rfl) rfl ?_ ?_ rfl) ?_; (first | omega | simp <;> omega); (first | omega | simp <;> omega))) | (refine Z21 rfl rfl (fun h => ?_) (fun h => ?_) <;> (fail_if_success first | have := ntT h | have := ntF h) <;> (try simp only [tdyB] at h) <;> (try (exfalso; omega)) <;> (try (exfalso; first | omega | (simp [hgn] at h; done); done))) | (refine Z0g rfl (fun h => ?_) (fun h => ?_) <;> (fail_if_success first | have := ntT h | have := ntF h) <;> (try simp only [tdyB] at h) <;> (try (exfalso; omega)) <;> (try (exfalso; first | omega | (simp [hgn] at h; done); done))))
      refine ⟨⟨_, ?_, i + 1, i, ⟨rfl, rfl, rfl, rfl, rfl, rfl, rfl, rfl, trivial⟩, S, Zew hi0 hB hg (.inr hrr), by omega, by omega, by omega, by omega, rfl⟩⟩
      omega
     ·have hrr' := hrr
      unfold remW at hrr'
      repeat' (first | refine Z0a ?_ | refine Z02 ?_ | refine Z08 ?_ | refine Z01 ?_ | refine Z0h ?_ | refine Z0k ?_ | refine Z0f ?_ | refine Z1s (by kernel_rfl) (by kernel_rfl) ?_ | (refine Z1q ?_; intro w hb; replace S := S.grow hb; clear hb) | refine Z06 rfl ?_ | refine Z04 rfl ?_ | ((refine Z00 rfl (Z12 rfl rfl ?_ ?_) ?_; (first | omega | simp <;> omega); (first | omega | simp <;> omega))) | refine Z00 rfl (Z0z rfl rfl) ?_ | refine Z00 rfl (Z0e rfl) ?_ | (refine Z1e ?_; refine Z1r rfl ?_) | (refine Z2a ?_; first | refine Z2j rfl rfl ?_ | refine Z31 rfl rfl ?_) | (refine Z75 ?_; (refine Z0c rfl (fun w' hb => Z5f rfl rfl ?_ ?_) ?_; (first | omega | simp <;> omega); (first | omega | simp <;> omega))) | (refine Z9s ?_; (refine Z0c rfl (fun w' hb => Z7i rfl rfl ?_ ?_) ?_; (first | omega | simp <;> omega); (first | omega | simp <;> omega))) | (refine Z2l ?_; refine Z0c rfl (fun w' hb => Z0z rfl rfl) ?_) | (refine Z2w ?_; refine Z0c rfl (fun w' hb => Z2o rfl rfl) ?_) | (refine Z4o ?_; refine Z0c rfl (fun w' hb => Z1w rfl) ?_) | (refine Z0q ?_; first | (refine Z0c rfl (fun w' hb => Z07 (hr.mono (S.grow hb).below) rfl rfl ?_ ?_) ?_; (first | omega | simp <;> omega); (first | omega | simp <;> omega)) | (refine Z0c rfl (fun w' hb => Z07 ((S.grow hb).rdRow (D := Z4q) (i := 1) rfl) rfl rfl ?_ ?_) ?_; (first | omega | simp <;> omega); (first | omega | simp <;> omega))) | (refine Z1f ?_; first | (refine Z0c rfl (fun w' hb => Z0i (hr.mono (S.grow hb).below) rfl ?_ ?_ rfl) ?_; (first | omega | simp <;> omega); (first | omega | simp <;> omega)) | (refine Z0c rfl (fun w' hb => Z0i ((S.grow hb).rdRow (D := Z4q) (i := 1) rfl) rfl ?_ ?_ rfl) ?_; (first | omega | simp <;> omega); (first | omega | simp <;> omega))) | (refine Z21 rfl rfl (fun h => ?_) (fun h => ?_) <;> (fail_if_success first | have := ntT h | have := ntF h) <;> (try simp only [tdyB] at h) <;> (try (exfalso; omega)) <;> (try (exfalso; first | omega | (simp [hgn] at h; done); done))) | (refine Z0g rfl (fun h => ?_) (fun h => ?_) <;> (fail_if_success first | have := ntT h | have := ntF h) <;> (try simp only [tdyB] at h) <;> (try (exfalso; omega)) <;> (try (exfalso; first | omega | (simp [hgn] at h; done); done))))
      refine ⟨⟨_, ?_, i + 1, b, ⟨rfl, rfl, rfl, rfl, rfl, rfl, rfl, rfl, trivial⟩, S, Zlb hB (by omega) (by omega), by omega, by omega, by omega, by omega, rfl⟩⟩
      omega
  ·have ei : i = ws.length := by omega
   subst ei
   have hpn : p < ws.length := by omega
   have hbl := Zlc hpn hB
   have hxr := Z6v.1 (Z2e (l := Z36 t s ws) (i := (p : Int)) (by omega) (by rw [Z4l]; omega))
   rw [hbl] at hxr
   have hxb := @Zjs t s ws p b hxr.1 hxr.2
   have hxq := Zd8 (k := b.toNat) hok ht hse hspos (by omega)
   rw [show ((b.toNat : Nat) : Int) = b by omega] at hxq
   have hsl := @Zfm t s ws p
   have hstep := @Zgu t s ws p b hpn hbl
   have hgs := gvN_step hpn hbl
   have hset := tabG_set (f := gvN t s ws p) (n := ws.length) (j := b) (b := true) hxr.1 hxr.2
   rw [hgs] at hset
   repeat' (first | refine Z0a ?_ | refine Z02 ?_ | refine Z08 ?_ | refine Z01 ?_ | refine Z0s ?_ | refine Z15 ?_ | refine Z1b ?_ | refine Z06 rfl ?_ | refine Z00 rfl (Z0z rfl rfl) ?_ | refine Z00 rfl (Z0e rfl) ?_ | ((refine Z00 rfl (Z07 (S.rdRow (D := Z4q) (i := 1) rfl) rfl rfl ?_ ?_) ?_; (first | omega | simp <;> omega); (first | omega | simp <;> omega))) | (refine Z0g rfl (fun h => ?_) (fun h => ?_) <;> (fail_if_success first | have := ntT h | have := ntF h) <;> (try simp only [tdyB] at h) <;> (try (exfalso; omega))))
   refine Z05 rfl (Z29 (i := 1) (D := Z4q) (x := true) S rfl rfl rfl rfl (fun c hc => by cases List.mem_singleton.1 hc; rfl) (by omega) (by omega)) ?_
   intro w S'
   have S2 : St w0 w [Z16 (fInt .i64) 3 vo (shP t s ws p), Z16 Z4q 4 vb ((tabG (gvN t s ws p) ws.length).set b.toNat true)] := S'
   rw [hset] at S2
   clear S S'
   have S := S2
   clear S2
   repeat' (first | refine Z02 ?_ | refine Z08 ?_ | refine Z01 ?_ | refine Z06 rfl ?_ | ((refine Z00 rfl (Z12 rfl rfl ?_ ?_) ?_; (first | omega | simp <;> omega); (first | omega | simp <;> omega))) | ((refine Z00 rfl (Z07 (S.rdRow (D := (fInt .i64)) (i := 0) rfl) rfl rfl ?_ ?_) ?_; (first | omega | simp <;> omega); (first | omega | simp <;> omega))) | ((refine Z00 rfl (Z0i (S.rdRow (D := (fInt .i64)) (i := 0) rfl) rfl ?_ ?_ rfl) ?_; (first | omega | simp <;> omega); (first | omega | simp <;> omega))))
   refine Z05 rfl (Z29 (i := 0) (D := fInt .i64) S rfl rfl rfl rfl (fun c hc => by cases List.mem_singleton.1 hc; rfl) (by omega) (by omega)) ?_
   intro w S'
   have S2 : St w0 w [Z16 (fInt .i64) 3 vo ((shP t s ws p).set b.toNat (nth (shP t s ws p) b + 1)), Z16 Z4q 4 vb (tabG (gvN t s ws (p + 1)) ws.length)] := S'
   rw [hstep] at S2
   clear S S'
   have S := S2
   clear S2
   repeat' (first | refine Z02 ?_ | refine Z08 ?_ | refine Z01 ?_ | refine Z0h ?_ | refine Z06 rfl ?_ | refine Z04 rfl ?_ | ((refine Z00 rfl (Z24 rfl rfl ?_ ?_) ?_; (first | omega | simp <;> omega); (first | omega | simp <;> omega))))
   refine ⟨⟨_, ?_, p + 1, _, ⟨rfl, rfl, rfl, rfl, rfl, rfl, trivial⟩, S, by omega, by omega, rfl⟩⟩
   omega
 have hpe : p = L.toNat := by omega
 subst hpe
 repeat' (first | refine Z0a ?_ | refine Z02 ?_ | refine Z08 ?_ | refine Z01 ?_ | refine Z0s ?_ | refine Z15 ?_ | refine Z0r ?_ | refine Z1b ?_ | refine Z06 rfl ?_ | refine Z04 rfl ?_ | refine Z00 rfl (Z2o rfl rfl) ?_ | (refine Z0g rfl (fun h => ?_) (fun h => ?_) <;> (fail_if_success first | have := ntT h | have := ntF h) <;> (try simp only [tdyB] at h) <;> (try (exfalso; omega))))
 exact end2 rfl rfl rfl ⟨_, rfl, S.below, _, rfl, S.row (i := 0) rfl⟩

theorem Zci {v : Value} {l : List GVerdict} {b : Bool} {w : World} (h : Z3m l = b) (hr : Rd Z1j.ty w v l) (hl : l.length ≤ 1000000000) : CallsV Tryd.prog 26 #[v] w (.bool b) := by rw [← h]; exact Z6w hr hl
set_option maxHeartbeats 2000000 in
theorem royR_run {t : Int} {l : List Int} {vs : List GVerdict} {v1 v2 : Value} {w0 : World} (hr : Rd (fInt .i64).ty w0 v1 l) (hr2 : Rd Z1j.ty w0 v2 vs) (hl : l.length ≤ 1000000000) (hl2 : vs.length ≤ 1000000000) :
  CallsR Tryd.prog 30 #[.int .i64 t, v1, v2] w0 (RowE w0 (royI t l vs)) := by
 have S := St.start w0
 obtain ⟨A, c, rfl⟩ := hr.len
 obtain ⟨A2, c2, rfl⟩ := hr2.len
 refine CallsR.mk ?_
 refine Z0l Tryd.func30 rfl (by intro _ h; first | exact nomatch h.1 | (obtain ⟨_, h, _⟩ := h; exact nomatch h)) Tryd.ntmps30 rfl ?_
 cases ht : inR t 0 1000000000000 with
 | false =>
  have e := Z6x (l := l) (vs := vs) (okRo_t ht)
  repeat' (first | refine Z0a ?_ | refine Z02 ?_ | refine Z08 ?_ | refine Z01 ?_ | refine Z0x ?_ | refine Z0r ?_ | refine Z0v rfl ?_ | (refine Z1c ?_; refine Z1p rfl ?_) | refine Z06 rfl ?_ | refine Z04 rfl ?_ | refine Z0u rfl rfl ?_ | refine Z00 rfl (Z1w rfl) ?_ | ((refine Z0j rfl (Z1t rfl rfl rfl rfl) (Z4d ht) ?_; intro w hb; replace S := S.grow hb; clear hb)))
  exact end2 rfl rfl rfl ⟨_, rfl, S.below, _, by rw [e]; rfl, by rw [e]; exact Z2u.nil _ _ _ _⟩
 | true =>
 cases hn : inR l.length 1 16 with
 | false =>
  have e := Z6x (t := t) (vs := vs) (okRo_l hn)
  repeat' (first | refine Z0a ?_ | refine Z02 ?_ | refine Z08 ?_ | refine Z01 ?_ | refine Z0x ?_ | refine Z0r ?_ | refine Z0v rfl ?_ | (refine Z1c ?_; refine Z1p rfl ?_) | refine Z06 rfl ?_ | refine Z04 rfl ?_ | (first | refine Z0u rfl rfl ?_ | refine Z0t rfl rfl ?_) | refine Z00 rfl (Z1w rfl) ?_ | refine Z00 rfl (Z0e rfl) ?_ | (first | (refine Z0j rfl (Z1t rfl rfl rfl rfl) (Z4d ht) ?_; intro w hb; replace S := S.grow hb; clear hb) | (refine Z0j rfl (Z1t rfl rfl rfl rfl) (Z4d hn) ?_; intro w hb; replace S := S.grow hb; clear hb)))
  exact end2 rfl rfl rfl ⟨_, rfl, S.below, _, by rw [e]; rfl, by rw [e]; exact Z2u.nil _ _ _ _⟩
 | true =>
 cases hv : Z3m vs with
 | false =>
  have e := Z6x (t := t) (l := l) (okRo_v hv)
  repeat' (first | refine Z0a ?_ | refine Z02 ?_ | refine Z08 ?_ | refine Z01 ?_ | refine Z0x ?_ | refine Z0r ?_ | refine Z0v rfl ?_ | refine Z06 rfl ?_ | refine Z04 rfl ?_ | refine Z0t rfl rfl ?_ | refine Z00 rfl (Z1w rfl) ?_ | refine Z00 rfl (Z0e rfl) ?_ | (first | (refine Z0j rfl (Z1t rfl rfl rfl rfl) (Z4d ht) ?_; intro w hb; replace S := S.grow hb; clear hb) | (refine Z0j rfl (Z1t rfl rfl rfl rfl) (Z4d hn) ?_; intro w hb; replace S := S.grow hb; clear hb) | (refine Z0j rfl (Z1h rfl rfl) (Zci hv (hr2.mono S.below) hl2) ?_; intro w hb; replace S := S.grow hb; clear hb)))
  exact end2 rfl rfl rfl ⟨_, rfl, S.below, _, by rw [e]; rfl, by rw [e]; exact Z2u.nil _ _ _ _⟩
 | true =>
 have hvl := Z68 hv
 have hnn : (1 : Int) ≤ l.length ∧ (l.length : Int) ≤ 16 := of_decide_eq_true hn
 repeat' (first | refine Z0a ?_ | refine Z02 ?_ | refine Z08 ?_ | refine Z01 ?_ | refine Z0k ?_ | refine Z18 rfl ?_ | refine Z06 rfl ?_ | refine Z04 rfl ?_ | refine Z0t rfl rfl ?_ | refine Z00 rfl (Z1w rfl) ?_ | refine Z00 rfl (Z0e rfl) ?_ | (first | (refine Z0j rfl (Z1t rfl rfl rfl rfl) (Z4d ht) ?_; intro w hb; replace S := S.grow hb; clear hb) | (refine Z0j rfl (Z1t rfl rfl rfl rfl) (Z4d hn) ?_; intro w hb; replace S := S.grow hb; clear hb) | (refine Z0j rfl (Z1h rfl rfl) (Zci hv (hr2.mono S.below) hl2) ?_; intro w hb; replace S := S.grow hb; clear hb)))
 refine Z0n rfl (Z5o (D := fInt .i64) (m := l.length) 0 S rfl rfl rfl (by decide) (by omega) (by omega)) ?_
 rintro vo w ⟨b, hvo, -, S'⟩; replace S := S'; clear S'
 rw [Zh3 (vs := vs)] at S
 repeat' (first | refine Z0a ?_ | refine Z02 ?_ | refine Z08 ?_ | refine Z01 ?_ | refine Z0f ?_ | refine Z04 rfl ?_)
 obtain ⟨f, hf⟩ : ∃ f : Nat → Int, (fun k : Nat => cntV vs (nth l (k : Int))) = f := ⟨_, rfl⟩
 have hfr : ∀ k, 0 ≤ f k ∧ f k ≤ 200 := fun k => by rw [← hf]; have := @Zd9 vs (nth l (k : Int)); exact ⟨this.1, by show cntV vs (nth l (k : Int)) ≤ 200; omega⟩
 refine Z1l (fun m σ w1 => ∃ (i : Int), Has σ [(0, .int .i64 t), (1, .slice A l.length c), (2, .slice A2 vs.length c2), (8, vo), (9, .int .i64 (sumN f i.toNat)), (10, .int .i64 i)] ∧ St w0 w1 [Z16 (fInt .i64) 3 vo (tab (wF l vs i 0) l.length)] ∧ 0 ≤ i ∧ i ≤ l.length ∧ (∀ j : Int, 0 ≤ j → j < i → okIt l j = true) ∧ m = l.length - i.toNat) l.length ⟨0, ⟨rfl, rfl, rfl, rfl, rfl, rfl, trivial⟩, S, by omega, by omega, fun j p q => by omega, by omega⟩ ?_
 clear S
 rintro m σ w1 ⟨i, hs, S, hi0, hi1, hall, hm⟩
 refine Z1o hs ?_
 have hsf := @Zd7 f i.toNat 200 fun k hk => hfr k
 by_cases hi : i < l.length
 ·cases hb : okIt l i with
  | false =>
   have e := Z6x (t := t) (vs := vs) (okRo_i (Zh2 hi0 hi hb))
   unfold okIt Zef at hb
   have hb := of_decide_eq_false hb
   cases h2 : inR (nth l i) 0 199 with
   | false =>
    repeat' (first | refine Z0a ?_ | refine Z02 ?_ | refine Z08 ?_ | refine Z01 ?_ | refine Z0x ?_ | refine Z27 ?_ | refine Z0r ?_ | refine Z0k ?_ | refine Z0f ?_ | refine Z0v rfl ?_ | refine Z1s (by kernel_rfl) (by kernel_rfl) ?_ | (refine Z1q ?_; intro w hb; replace S := S.grow hb; clear hb) | refine Z06 rfl ?_ | refine Z04 rfl ?_ | refine Z00 rfl (Z0z rfl rfl) ?_ | refine Z00 rfl (Z0e rfl) ?_ | (refine Z2y ?_; refine Z5l rfl ?_) | (refine Z1e ?_; refine Z1r rfl ?_) | (refine Z2a ?_; refine Z2j rfl rfl ?_) | (refine Z4o ?_; refine Z0c rfl (fun w' hb => Z1w rfl) ?_) | (refine Z0q ?_; (refine Z0c rfl (fun w' hb => Z07 (hr.mono (S.grow hb).below) rfl rfl ?_ ?_) ?_; (first | omega | simp <;> omega); (first | omega | simp <;> omega))) | (refine Z1f ?_; (refine Z0c rfl (fun w' hb => Z0i (hr.mono (S.grow hb).below) rfl ?_ ?_ rfl) ?_; (first | omega | simp <;> omega); (first | omega | simp <;> omega))) | (refine Z1v ?_; refine Z20 rfl (fun w' hb => Z1t rfl rfl rfl rfl) (fun w' hb => Z4d h2) ?_) | (refine Z0g rfl (fun h => ?_) (fun h => ?_) <;> (fail_if_success first | have := ntT h | have := ntF h) <;> (try simp only [tdyB] at h) <;> (try (exfalso; omega)) <;> (try (exfalso; omega; done))))
    all_goals exact end2 rfl rfl rfl ⟨_, rfl, S.below, _, by rw [e]; rfl, by rw [e]; exact Z2u.nil _ _ _ _⟩
   | true =>
    have h2' : 0 ≤ nth l i ∧ nth l i ≤ 199 := of_decide_eq_true h2
    have hi1 : ¬ i = 0 := by intro h; rw [if_pos h] at hb; omega
    rw [if_neg hi1] at hb
    repeat' (first | refine Z0a ?_ | refine Z02 ?_ | refine Z08 ?_ | refine Z01 ?_ | refine Z0x ?_ | refine Z27 ?_ | refine Z0r ?_ | refine Z0k ?_ | refine Z0f ?_ | refine Z1s (by kernel_rfl) (by kernel_rfl) ?_ | (refine Z1q ?_; intro w hb; replace S := S.grow hb; clear hb) | refine Z06 rfl ?_ | refine Z04 rfl ?_ | refine Z00 rfl (Z0z rfl rfl) ?_ | refine Z00 rfl (Z0e rfl) ?_ | (refine Z1e ?_; refine Z1r rfl ?_) | (refine Z2a ?_; first | refine Z2j rfl rfl ?_ | refine Z31 rfl rfl ?_) | (refine Z2f ?_; (refine Z0c rfl (fun w' hb => Z24 rfl rfl ?_ ?_) ?_; (first | omega | simp <;> omega); (first | omega | simp <;> omega))) | (refine Z76 ?_; refine Z0c rfl (fun w' hb => Z4m rfl rfl) ?_) | (refine Z2w ?_; refine Z0c rfl (fun w' hb => Z2o rfl rfl) ?_) | (refine Z4o ?_; refine Z0c rfl (fun w' hb => Z1w rfl) ?_) | (refine Z0q ?_; (refine Z0c rfl (fun w' hb => Z07 (hr.mono (S.grow hb).below) rfl rfl ?_ ?_) ?_; (first | omega | simp <;> omega); (first | omega | simp <;> omega))) | (refine Z1f ?_; (refine Z0c rfl (fun w' hb => Z0i (hr.mono (S.grow hb).below) rfl ?_ ?_ rfl) ?_; (first | omega | simp <;> omega); (first | omega | simp <;> omega))) | (refine Z1v ?_; refine Z20 rfl (fun w' hb => Z1t rfl rfl rfl rfl) (fun w' hb => Z4d h2) ?_) | (refine Z21 rfl rfl (fun h => ?_) (fun h => ?_) <;> (fail_if_success first | have := ntT h | have := ntF h) <;> (try simp only [tdyB] at h) <;> (try (exfalso; omega)) <;> (try (exfalso; omega; done))) | (refine Z0g rfl (fun h => ?_) (fun h => ?_) <;> (fail_if_success first | have := ntT h | have := ntF h) <;> (try simp only [tdyB] at h) <;> (try (exfalso; omega)) <;> (try (exfalso; omega; done))))
    all_goals exact end2 rfl rfl rfl ⟨_, rfl, S.below, _, by rw [e]; rfl, by rw [e]; exact Z2u.nil _ _ _ _⟩
  | true =>
   have hb' := hb
   unfold okIt Zef at hb'
   have hb' := of_decide_eq_true hb'
   have h0 : 0 ≤ nth l i := by
    by_cases h : i = 0
    ·rw [if_pos h] at hb'; omega
    ·rw [if_neg h] at hb'
     have key : ∀ n : Nat, (n : Int) < i → 0 ≤ nth l (n : Int) := by
      intro n
      induction n with
      | zero =>
       intro h
       have := hall 0 (by omega) (by omega)
       unfold okIt Zef at this
       have := of_decide_eq_true this
       rw [if_pos rfl] at this
       show 0 ≤ nth l 0
       omega
      | succ n ih =>
       intro h
       have := hall ((n + 1 : Nat) : Int) (by omega) (by omega)
       unfold okIt Zef at this
       have := of_decide_eq_true this
       rw [if_neg (by omega), show (((n + 1 : Nat) : Int) - 1) = (n : Int) by omega] at this
       have := ih (by omega)
       omega
     have := key (i - 1).toNat (by omega)
     rw [show (((i - 1).toNat : Nat) : Int) = i - 1 by omega] at this
     omega
   have h2 : inR (nth l i) 0 199 = true := by unfold inR; exact decide_eq_true ⟨h0, by omega⟩
   have hb2 : ¬ i = 0 → nth l (i - 1) < nth l i := fun h => by rw [if_neg h] at hb'; omega
   clear hb'
   obtain ⟨s0, hs0⟩ : ∃ s0, sumN f i.toNat = s0 := ⟨_, rfl⟩
   rw [hs0]
   rw [hs0] at hsf
   have hvle := fun j : Int => @Zd9 (vs.take j.toNat) (nth l i)
   have key : ∀ σ w1, Has σ [(0, .int .i64 t), (1, .slice A l.length c), (2, .slice A2 vs.length c2), (8, vo), (9, .int .i64 s0), (10, .int .i64 i)] → St w0 w1 [Z16 (fInt .i64) 3 vo (tab (wF l vs i 0) l.length)] → True := fun _ _ _ _ => trivial
   repeat' (first | refine Z0a ?_ | refine Z02 ?_ | refine Z08 ?_ | refine Z01 ?_ | refine Z0k ?_ | refine Z0f ?_ | refine Z18 rfl ?_ | refine Z1s (by kernel_rfl) (by kernel_rfl) ?_ | (refine Z1q ?_; intro w hb; replace S := S.grow hb; clear hb) | refine Z06 rfl ?_ | refine Z04 rfl ?_ | refine Z00 rfl (Z0z rfl rfl) ?_ | refine Z00 rfl (Z0e rfl) ?_ | (refine Z2y ?_; refine Z5l rfl ?_) | (refine Z1e ?_; refine Z1r rfl ?_) | (refine Z2a ?_; first | refine Z2j rfl rfl ?_ | refine Z31 rfl rfl ?_) | (refine Z2f ?_; (refine Z0c rfl (fun w' hb => Z24 rfl rfl ?_ ?_) ?_; (first | omega | simp <;> omega); (first | omega | simp <;> omega))) | (refine Z76 ?_; refine Z0c rfl (fun w' hb => Z4m rfl rfl) ?_) | (refine Z2w ?_; refine Z0c rfl (fun w' hb => Z2o rfl rfl) ?_) | (refine Z4o ?_; refine Z0c rfl (fun w' hb => Z1w rfl) ?_) | (refine Z0q ?_; (refine Z0c rfl (fun w' hb => Z07 (hr.mono (S.grow hb).below) rfl rfl ?_ ?_) ?_; (first | omega | simp <;> omega); (first | omega | simp <;> omega))) | (refine Z1f ?_; (refine Z0c rfl (fun w' hb => Z0i (hr.mono (S.grow hb).below) rfl ?_ ?_ rfl) ?_; (first | omega | simp <;> omega); (first | omega | simp <;> omega))) | (refine Z1v ?_; refine Z20 rfl (fun w' hb => Z1t rfl rfl rfl rfl) (fun w' hb => Z4d h2) ?_) | (refine Z21 rfl rfl (fun h => ?_) (fun h => ?_) <;> (fail_if_success first | have := ntT h | have := ntF h) <;> (try simp only [tdyB] at h) <;> (try (exfalso; omega)) <;> (try (exfalso; omega; done))) | (refine Z0g rfl (fun h => ?_) (fun h => ?_) <;> (fail_if_success first | have := ntT h | have := ntF h) <;> (try simp only [tdyB] at h) <;> (try (exfalso; omega)) <;> (try (exfalso; omega; done))))
   all_goals
    refine Z1l (fun m σ w1 => ∃ (j : Int), Has σ [(0, .int .i64 t), (1, .slice A l.length c), (2, .slice A2 vs.length c2), (8, vo), (9, .int .i64 (s0 + cntV (vs.take j.toNat) (nth l i))), (10, .int .i64 i), (11, .int .i64 j)] ∧ St w0 w1 [Z16 (fInt .i64) 3 vo (tab (wF l vs i j) l.length)] ∧ 0 ≤ j ∧ j ≤ vs.length ∧ m = vs.length - j.toNat) vs.length ⟨0, ⟨rfl, rfl, rfl, rfl, ?_, rfl, rfl, trivial⟩, S, by omega, by omega, by omega⟩ ?_
    ·show Value.int .i64 s0 = Value.int .i64 (s0 + 0); rw [Int.add_zero]
    clear S
    rintro m' σ w1 ⟨j, hs, S, hj0, hj1, hm'⟩
    refine Z1o hs ?_
    have hc := hvle j
    rw [List.length_take] at hc
    by_cases hj : j < vs.length
    ·have hst := @Zeh vs (nth l i) j hj0 hj
     have hat := @wF_at l vs i j hi0 hi
     have htl := @Z2s (wF l vs i j) l.length
     cases hh : hitV (nth l i) (nth vs j) with
     | true =>
      rw [hh, if_pos rfl] at hst
      have hh2 : (nth vs j).Kind = 1 ∧ (nth vs j).Item = nth l i := of_decide_eq_true hh
      repeat' (first | refine Z0a ?_ | refine Z02 ?_ | refine Z08 ?_ | refine Z01 ?_ | refine Z0k ?_ | refine Z0f ?_ | refine Z1s (by kernel_rfl) (by kernel_rfl) ?_ | (refine Z1q ?_; intro w hb; replace S := S.grow hb; clear hb) | refine Z06 rfl ?_ | ((refine Z00 rfl (Z12 rfl rfl ?_ ?_) ?_; (first | omega | simp <;> omega); (first | omega | simp <;> omega))) | refine Z00 rfl (Z0z rfl rfl) ?_ | refine Z00 rfl (Z0e rfl) ?_ | ((refine Z00 rfl (Z07 (S.rdRow (D := (fInt .i64)) (i := 0) rfl) rfl rfl ?_ ?_) ?_; (first | omega | simp <;> omega); (first | omega | simp <;> omega))) | ((refine Z00 rfl (Z0i (S.rdRow (D := (fInt .i64)) (i := 0) rfl) rfl ?_ ?_ rfl) ?_; (first | omega | simp <;> omega); (first | omega | simp <;> omega))) | (refine Z1e ?_; refine Z1r rfl ?_) | (refine Z2a ?_; refine Z2j rfl rfl ?_) | (refine Z4h ?_; refine Z0c rfl (fun w' hb => Z2k rfl rfl) ?_) | (refine Z10 ?_; refine Z0c rfl (fun w' hb => Z1g rfl) ?_) | (refine Z0q ?_; first | (refine Z0c rfl (fun w' hb => Z07 (hr2.mono (S.grow hb).below) rfl rfl ?_ ?_) ?_; (first | omega | simp <;> omega); (first | omega | simp <;> omega)) | (refine Z0c rfl (fun w' hb => Z07 (hr.mono (S.grow hb).below) rfl rfl ?_ ?_) ?_; (first | omega | simp <;> omega); (first | omega | simp <;> omega))) | (refine Z1f ?_; first | (refine Z0c rfl (fun w' hb => Z0i (hr2.mono (S.grow hb).below) rfl ?_ ?_ rfl) ?_; (first | omega | simp <;> omega); (first | omega | simp <;> omega)) | (refine Z0c rfl (fun w' hb => Z11 (hr2.mono (S.grow hb).below) rfl ?_ ?_ rfl) ?_; (first | omega | simp <;> omega); (first | omega | simp <;> omega)) | (refine Z0c rfl (fun w' hb => Z0i (hr.mono (S.grow hb).below) rfl ?_ ?_ rfl) ?_; (first | omega | simp <;> omega); (first | omega | simp <;> omega))) | (refine Z21 rfl rfl (fun h => ?_) (fun h => ?_) <;> (fail_if_success first | have := ntT h | have := ntF h) <;> (try simp only [tdyB] at h) <;> (try (exfalso; omega)) <;> (try (exfalso; omega; done))) | (refine Z0g rfl (fun h => ?_) (fun h => ?_) <;> (fail_if_success first | have := ntT h | have := ntF h) <;> (try simp only [tdyB] at h) <;> (try (exfalso; omega)) <;> (try (exfalso; omega; done))))
      refine Z05 rfl (Z29 (i := 0) (D := fInt .i64) S rfl rfl rfl rfl (fun c hc => by cases List.mem_singleton.1 hc; rfl) (by omega) (by omega)) ?_
      clear S; intro w S
      repeat' (first | refine Z02 ?_ | refine Z08 ?_ | refine Z01 ?_ | refine Z0h ?_ | refine Z06 rfl ?_ | refine Z04 rfl ?_ | ((refine Z00 rfl (Z12 rfl rfl ?_ ?_) ?_; (first | omega | simp <;> omega); (first | omega | simp <;> omega))))
      refine ⟨⟨_, ?_, j + 1, ⟨rfl, rfl, rfl, rfl, ?_, rfl, rfl, trivial⟩, ?_, by omega, by omega, rfl⟩⟩
      ·omega
      ·show Value.int .i64 _ = Value.int .i64 _
       rw [hst]; congr 1; omega
      ·rw [← wF_put (x := nth (tab (wF l vs i j) l.length) i + 1) hi0 hi (by rw [hat, hst])]
       exact S
     | false =>
      rw [hh, if_neg (by simp), Int.add_zero] at hst
      have hh2 : ¬ ((nth vs j).Kind = 1 ∧ (nth vs j).Item = nth l i) := of_decide_eq_false hh
      repeat' (first | refine Z0a ?_ | refine Z02 ?_ | refine Z08 ?_ | refine Z01 ?_ | refine Z0h ?_ | refine Z0k ?_ | refine Z0f ?_ | refine Z18 rfl ?_ | refine Z1s (by kernel_rfl) (by kernel_rfl) ?_ | (refine Z1q ?_; intro w hb; replace S := S.grow hb; clear hb) | refine Z06 rfl ?_ | refine Z04 rfl ?_ | ((refine Z00 rfl (Z12 rfl rfl ?_ ?_) ?_; (first | omega | simp <;> omega); (first | omega | simp <;> omega))) | refine Z00 rfl (Z0z rfl rfl) ?_ | refine Z00 rfl (Z0e rfl) ?_ | (refine Z2y ?_; refine Z5l rfl ?_) | (refine Z1e ?_; refine Z1r rfl ?_) | (refine Z2a ?_; first | refine Z2j rfl rfl ?_ | refine Z31 rfl rfl ?_) | (refine Z4h ?_; refine Z0c rfl (fun w' hb => Z2k rfl rfl) ?_) | (refine Z10 ?_; refine Z0c rfl (fun w' hb => Z1g rfl) ?_) | (refine Z0q ?_; first | (refine Z0c rfl (fun w' hb => Z07 (hr2.mono (S.grow hb).below) rfl rfl ?_ ?_) ?_; (first | omega | simp <;> omega); (first | omega | simp <;> omega)) | (refine Z0c rfl (fun w' hb => Z07 (hr.mono (S.grow hb).below) rfl rfl ?_ ?_) ?_; (first | omega | simp <;> omega); (first | omega | simp <;> omega))) | (refine Z1f ?_; first | (refine Z0c rfl (fun w' hb => Z0i (hr2.mono (S.grow hb).below) rfl ?_ ?_ rfl) ?_; (first | omega | simp <;> omega); (first | omega | simp <;> omega)) | (refine Z0c rfl (fun w' hb => Z11 (hr2.mono (S.grow hb).below) rfl ?_ ?_ rfl) ?_; (first | omega | simp <;> omega); (first | omega | simp <;> omega)) | (refine Z0c rfl (fun w' hb => Z0i (hr.mono (S.grow hb).below) rfl ?_ ?_ rfl) ?_; (first | omega | simp <;> omega); (first | omega | simp <;> omega))) | (refine Z21 rfl rfl (fun h => ?_) (fun h => ?_) <;> (fail_if_success first | have := ntT h | have := ntF h) <;> (try simp only [tdyB] at h) <;> (try (exfalso; omega)) <;> (try (exfalso; omega; done))) | (refine Z0g rfl (fun h => ?_) (fun h => ?_) <;> (fail_if_success first | have := ntT h | have := ntF h) <;> (try simp only [tdyB] at h) <;> (try (exfalso; omega)) <;> (try (exfalso; omega; done))))
      all_goals
       refine ⟨⟨_, ?_, j + 1, ⟨rfl, rfl, rfl, rfl, by rw [hst]; rfl, rfl, rfl, trivial⟩, ?_, by omega, by omega, rfl⟩⟩
       ·omega
       ·rw [Zk6 hst]
        exact S
    have hje : j = vs.length := by omega
    subst hje
    rw [Zk5] at S
    have hfi : f i.toNat = cntV (vs.take (vs.length : Int).toNat) (nth l i) := by rw [← hf, Int.toNat_natCast, List.take_length]; show cntV vs (nth l ((i.toNat : Nat) : Int)) = _; rw [show ((i.toNat : Nat) : Int) = i by omega]
    repeat' (first | refine Z0a ?_ | refine Z02 ?_ | refine Z08 ?_ | refine Z01 ?_ | refine Z0h ?_ | refine Z0s ?_ | refine Z15 ?_ | refine Z1b ?_ | refine Z06 rfl ?_ | refine Z04 rfl ?_ | ((refine Z00 rfl (Z12 rfl rfl ?_ ?_) ?_; (first | omega | simp <;> omega); (first | omega | simp <;> omega))) | refine Z00 rfl (Z0z rfl rfl) ?_ | refine Z00 rfl (Z0e rfl) ?_ | (refine Z0g rfl (fun h => ?_) (fun h => ?_) <;> (fail_if_success first | have := ntT h | have := ntF h) <;> (try simp only [tdyB] at h) <;> (try (exfalso; omega))))
    refine ⟨⟨_, ?_, i + 1, ⟨rfl, rfl, rfl, rfl, ?_, rfl, trivial⟩, S, by omega, by omega, fun j p q => ?_, rfl⟩⟩
    ·omega
    ·rw [show (i + 1).toNat = i.toNat + 1 by omega, sumN, hs0, hfi]; rfl
    ·by_cases e : j = i
     ·subst e; exact hb
     ·exact hall j p (by omega)
 have hil : i = l.length := by omega
 subst hil
 rw [wF_end] at S
 have hok : okRo t l vs = true := by unfold okRo; rw [ht, hn, hv, Zh1 hall]; rfl
 have hwl := @Zda l vs
 have hsw : sumN f (l.length : Int).toNat = sumW (wts l vs) := by
  rw [Int.toNat_natCast]
  unfold sumW
  rw [hwl]
  exact Z7b fun k hk => by rw [Zk4 (by omega) (by omega), ← hf]
 rw [hsw]
 by_cases hz : sumW (wts l vs) = 0
 ·have e : royI t l vs = (wts l vs, 0) := by unfold royI; rw [hok, if_pos rfl, if_pos hz]
  repeat' (first | refine Z0a ?_ | refine Z02 ?_ | refine Z08 ?_ | refine Z01 ?_ | refine Z0s ?_ | refine Z15 ?_ | refine Z0x ?_ | refine Z0r ?_ | refine Z1b ?_ | refine Z06 rfl ?_ | refine Z04 rfl ?_ | refine Z00 rfl (Z2k rfl rfl) ?_ | refine Z00 rfl (Z0z rfl rfl) ?_ | refine Z00 rfl (Z0e rfl) ?_ | (refine Z0g rfl (fun h => ?_) (fun h => ?_) <;> (fail_if_success first | have := ntT h | have := ntF h) <;> (try simp only [tdyB] at h) <;> (try (exfalso; omega)) <;> (try (exfalso; exact absurd hz (by simpa using h); done))))
  exact end2 rfl rfl rfl ⟨_, rfl, S.below, _, by rw [e]; rfl, by rw [e]; exact S.row (i := 0) rfl⟩
 ·have e : royI t l vs = shI t (wts l vs) := by unfold royI; rw [hok, if_pos rfl, if_neg hz]
  rw [e]
  repeat' (first | refine Z0a ?_ | refine Z02 ?_ | refine Z08 ?_ | refine Z01 ?_ | refine Z0s ?_ | refine Z15 ?_ | refine Z0k ?_ | refine Z1b ?_ | refine Z06 rfl ?_ | refine Z00 rfl (Z2k rfl rfl) ?_ | refine Z00 rfl (Z0z rfl rfl) ?_ | refine Z00 rfl (Z0e rfl) ?_ | (refine Z0g rfl (fun h => ?_) (fun h => ?_) <;> (fail_if_success first | have := ntT h | have := ntF h) <;> (try simp only [tdyB] at h) <;> (try (exfalso; omega)) <;> (try (exfalso; exact absurd (by simpa using h) hz; done))))
  refine Z25 rfl (Z0w rfl rfl rfl) (Zbp (S.rdRow (D := fInt .i64) (i := 0) rfl) (by omega)) ?_
  rintro _ w hb ⟨vr, rfl, hrow⟩
  replace S := S.new hb hrow; clear hb hrow
  repeat' (first | refine Z08 ?_ | refine Z01 ?_ | refine Z0r ?_ | refine Z04 rfl ?_ | refine Z00 rfl (Z0y rfl rfl) ?_)
  exact end2 rfl rfl rfl ⟨_, rfl, S.below, _, rfl, S.row (i := 1) rfl⟩

def okA5 (x : GArr5Int) : Prop := inI x.a0 ∧ inI x.a1 ∧ inI x.a2 ∧ inI x.a3 ∧ inI x.a4
theorem tdiv7 {x : Int} (h0 : -9223372036854775808 ≤ x) (h1 : x ≤ 9223372036854775807) : -9223372036854775808 ≤ x.tdiv 7 ∧ x.tdiv 7 ≤ 9223372036854775807 := by
 rcases Int.le_total 0 x with h | h
 ·rw [Int.tdiv_eq_ediv_of_nonneg h]; omega
 ·have e : x.tdiv 7 = -((-x).tdiv 7) := by rw [Int.neg_tdiv, Int.neg_neg]
  rw [e, Int.tdiv_eq_ediv_of_nonneg (by omega)]; omega
def MadeR (w0 : World) (r : Value) (w' : World) : Prop := ∃ (acc cl : Int) (v : Value) (L : List GPosting), r = .agg (bkV acc v cl).toArray ∧ L.length ≤ 48 ∧ St w0 w' [rowP v L]
theorem Zld {L : List GPosting} {i d a : Int} : (Z70 L i d a).length ≤ L.length + 2 := by unfold Z70; split <;> simp
set_option maxRecDepth 20000 in
set_option maxHeartbeats 4000000 in
theorem Zle {xs : List GArr5Int} {n : Int} {v : Value} {w0 : World} (hn : inI n) (hr : Rd Zas.ty w0 v xs) (hx : ∀ x ∈ xs, okA5 x) (hl : xs.length ≤ maxLen) :
  CallsR Tryd.prog 14 #[.int .i64 n, v] w0 (MadeR w0) := by
 have S := St.start w0
 have hml : maxLen ≤ 9223372036854775807 := by decide
 obtain ⟨A, c, rfl⟩ := hr.len
 obtain ⟨a0, ha0⟩ : ∃ a0, Z26 n 15 = a0 := ⟨_, rfl⟩
 have ra0 := Z1m (c := n) (n := 15) (by omega)
 rw [ha0] at ra0
 unfold inI at hn
 refine CallsR.mk ?_
 refine Z0l Tryd.func14 rfl (by intro _ h; first | exact nomatch h.1 | (obtain ⟨_, h, _⟩ := h; exact nomatch h)) Tryd.ntmps14 rfl ?_
 repeat' (first | refine Z0a ?_ | refine Z02 ?_ | refine Z08 ?_ | refine Z01 ?_ | refine Z0f ?_ | refine Z06 rfl ?_ | refine Z04 rfl ?_ | ((refine Z00 rfl (Z12 rfl rfl ?_ ?_) ?_; (first | omega | simp <;> omega); (first | omega | simp <;> omega))) | refine Z00 rfl (Zgd rfl) ?_ | ((refine Z0j rfl (Z0w rfl rfl rfl) (pickD_is ha0 hn.1 hn.2 (by omega)) ?_; intro w hb; replace S := S.grow hb; clear hb)) | (refine Z0n rfl (Z1i S) ?_; rintro _ w ⟨b, rfl, -, S'⟩; replace S := S'; clear S') | (first | (refine Z05 rfl (Z03 (i := 0) S rfl rfl rfl rfl (dqq rfl) (dqq rfl)) ?_; clear S; intro w S) | (refine Z05 rfl (Z03 (i := 1) S rfl rfl rfl rfl (dqq rfl) (dqq rfl)) ?_; clear S; intro w S)))
 obtain ⟨b5, rfl⟩ : ∃ x, x = b := ⟨_, rfl⟩
 obtain ⟨b4, rfl⟩ : ∃ x, x = b := ⟨_, rfl⟩
 replace S : St w0 w [.var b4 27 (bkV 0 (.slice none 0 0) 0), .var b5 27 (bkV (2 + a0) (.slice none 0 0) 0)] := S
 replace S := S.nilRow Z0o 84
 obtain ⟨acc, hacc⟩ : ∃ acc, 2 + a0 = acc := ⟨_, rfl⟩
 rw [hacc] at S
 refine Z1l (fun m σ w1 => ∃ (i : Nat) (p d cl : Int) (AB : Option Addr) (cB : Nat) (L : List GPosting), Has σ [(1, .slice A xs.length c), (4, .pointer (some ⟨b4, 0, none⟩)), (5, .pointer (some ⟨b5, 0, none⟩)), (6, .int .i64 d), (7, .int .i64 p)] ∧ St w0 w1 [.var b4 27 (bkV 0 (.slice none 0 0) 0), .var b5 27 (bkV acc (.slice AB L.length cB) cl), rowP (.slice AB L.length cB) L] ∧ p = i ∧ i ≤ min xs.length 24 ∧ 0 ≤ d ∧ d ≤ 359 ∧ L.length ≤ 2 * i ∧ m = 24 - i) 24 ⟨0, 0, 0, 0, _, _, [], ⟨rfl, rfl, rfl, rfl, rfl, trivial⟩, S, rfl, by omega, by omega, by omega, by simp, rfl⟩ ?_
 clear S
 rintro m σ w1 ⟨i, p, d, cl, AB, cB, L, hs, S, hp, hi1, hd0, hd1, hLl, hm⟩
 refine Z1o hs ?_
 clear hs
 by_cases hi : i < min xs.length 24
 ·obtain ⟨x0, x1, x2, x3, x4⟩ := hx _ (Z2e (l := xs) (i := p) (by omega) (by omega))
  unfold inI at x0 x1 x2 x3 x4
  have r1 := Z1m (c := (nth xs p).a1) (n := 20) (by omega)
  have r2 := Z1m (c := (nth xs p).a2) (n := acc) (by omega)
  have r3 := Z1m (c := (nth xs p).a3) (n := acc - 1) (by omega)
  have r4 := Z1m (c := (nth xs p).a4) (n := 1000) (by omega)
  have r5 := Z1m (c := (nth xs p).a4) (n := 6) (by omega)
  have td := tdiv7 x4.1 x4.2
  have r6 := Z1m (c := (nth xs p).a4.tdiv 7) (n := 2) (by omega)
  repeat' (first | refine Z0a ?_ | refine Z02 ?_ | refine Z08 ?_ | refine Z01 ?_ | refine Z0k ?_ | refine Z0f ?_ | refine Z06 rfl ?_ | refine Z04 rfl ?_ | refine Z0u rfl rfl ?_ | ((refine Z00 rfl (Z12 rfl rfl ?_ ?_) ?_; (first | omega | simp <;> omega); (first | omega | simp <;> omega))) | refine Z00 rfl (Z0z rfl rfl) ?_ | refine Z00 rfl (Z6l rfl rfl) ?_ | refine Z00 rfl (Z0e rfl) ?_ | (first | (refine Z00 rfl (Z07 (hr.mono S.below) rfl rfl ?_ ?_) ?_; (first | omega | simp <;> omega); (first | omega | simp <;> omega)) | (refine Z00 rfl (Z17 rfl rfl ?_ ?_) ?_; (first | omega | simp <;> omega); (first | omega | simp <;> omega))) | ((refine Z00 rfl (Z11 (hr.mono S.below) rfl ?_ ?_ rfl) ?_; (first | omega | simp <;> omega); (first | omega | simp <;> omega))) | ((refine Z0j rfl (Z0w rfl rfl rfl) (Z47 (by omega) (by omega) (by omega)) ?_; intro w hb; replace S := S.grow hb; clear hb)) | (refine Z13 rfl rfl (fun h => ?_) (fun h => ?_) <;> (fail_if_success first | have := ntT h | have := ntF h) <;> (try simp only [tdyB] at h) <;> (try (exfalso; omega)) <;> (try (exfalso; omega; done))) | (refine Z0g rfl (fun h => ?_) (fun h => ?_) <;> (fail_if_success first | have := ntT h | have := ntF h) <;> (try simp only [tdyB] at h) <;> (try (exfalso; omega)) <;> (try (exfalso; omega; done))))
  obtain ⟨d', hd'⟩ : ∃ d', min 359 (d + Z26 (nth xs p).a1 20) = d' := ⟨_, rfl⟩
  have hdr' : 0 ≤ d' ∧ d' ≤ 359 := by omega
  rw [hd']
  refine Z2c (fun σ w1 => Has σ [(1, .slice A xs.length c), (4, .pointer (some ⟨b4, 0, none⟩)), (5, .pointer (some ⟨b5, 0, none⟩)), (6, .int .i64 d'), (7, .int .i64 p), (8, .int .i64 (Z26 (nth xs p).a2 acc))] ∧ St w0 w1 [.var b4 27 (bkV 0 (.slice none 0 0) 0), .var b5 27 (bkV acc (.slice AB L.length cB) cl), rowP (.slice AB L.length cB) L]) ?_ ?_
  ·repeat' (first | refine Z01 ?_ | refine Z1s (by kernel_rfl) (by kernel_rfl) ?_ | (refine Z1q ?_; intro w hb; replace S := S.grow hb; clear hb) | (refine Z1e ?_; refine Z1r rfl ?_) | (refine Z42 ?_; refine Z4g rfl ?_) | (refine Z10 ?_; refine Z0c rfl (fun w' hb => Z09 rfl) ?_) | (refine Z0q ?_; first | (refine Z0c rfl (fun w' hb => Z07 (hr.mono (S.grow hb).below) rfl rfl ?_ ?_) ?_; (first | omega | simp <;> omega); (first | omega | simp <;> omega)) | (refine Z0c rfl (fun w' hb => Z17 rfl rfl ?_ ?_) ?_; (first | omega | simp <;> omega); (first | omega | simp <;> omega))) | (refine Z1f ?_; first | (refine Z0c rfl (fun w' hb => Z11 (hr.mono (S.grow hb).below) rfl ?_ ?_ rfl) ?_; (first | omega | simp <;> omega); (first | omega | simp <;> omega)) | refine Z0c rfl (fun w' hb => Z0b (i := 1) (S.grow hb) rfl rfl rfl) ?_) | (refine Z1v ?_; refine Z20 rfl (fun w' hb => Z0w rfl rfl rfl) (fun w' hb => Z47 (by omega) (by omega) (by omega)) ?_))
   exact ⟨⟨rfl, rfl, rfl, rfl, rfl, rfl, trivial⟩, S⟩
  clear S
  rintro σ w1 ⟨hs, S⟩
  refine Z1o hs ?_
  clear hs
  refine Z0a ?_
  refine Z2c (fun σ w1 => ∃ (b9 : Nat) (po : GPosting), Has σ [(1, .slice A xs.length c), (4, .pointer (some ⟨b4, 0, none⟩)), (5, .pointer (some ⟨b5, 0, none⟩)), (6, .int .i64 d'), (7, .int .i64 p), (9, .pointer (some ⟨b9, 0, none⟩))] ∧ St w0 w1 [.var b4 27 (bkV 0 (.slice none 0 0) 0), .var b5 27 (bkV acc (.slice AB L.length cB) cl), rowP (.slice AB L.length cB) L, .var b9 84 po.enc]) ?_ ?_
  ·repeat' (first | refine Z08 ?_ | refine Z01 ?_ | refine Z4t 39 40 (by kernel_rfl) (by decide +kernel) ?_ | refine Zc0 ?_ | (refine Zdw rfl (Z1i S) (by rintro _ _ ⟨b, -, h, -⟩; exact h) ?_; rintro _ w ⟨b, rfl, -, S'⟩ w hb; replace S := S'.grow hb; clear S' hb) | (refine Z1q ?_; intro w hb; replace S := S.grow hb; clear hb) | (refine Z1e ?_; refine Z1r rfl ?_) | (refine Z3o ?_; (refine Z0c rfl (fun w' hb => Z12 rfl rfl ?_ ?_) ?_; (first | omega | simp <;> omega); (first | omega | simp <;> omega))) | (refine Z2f ?_; (refine Z0c rfl (fun w' hb => Z24 rfl rfl ?_ ?_) ?_; (first | omega | simp <;> omega); (first | omega | simp <;> omega))) | (refine Zco ?_; (refine Z0c rfl (fun w' hb => Zdx rfl rfl ?_ ?_ ?_) ?_; (first | omega | simp <;> omega); (first | omega | simp <;> omega); (first | omega | simp <;> omega))) | (refine Z9s ?_; (refine Z0c rfl (fun w' hb => Z7i rfl rfl ?_ ?_) ?_; (first | omega | simp <;> omega); (first | omega | simp <;> omega))) | (refine Z9r ?_; refine Z0c rfl (fun w' hb => Z3l rfl rfl rfl rfl rfl rfl rfl) ?_) | (refine Z10 ?_; refine Z0c rfl (fun w' hb => Z09 rfl) ?_) | (refine Z0q ?_; first | (refine Z0c rfl (fun w' hb => Z07 (hr.mono (S.grow hb).below) rfl rfl ?_ ?_) ?_; (first | omega | simp <;> omega); (first | omega | simp <;> omega)) | (refine Z0c rfl (fun w' hb => Z17 rfl rfl ?_ ?_) ?_; (first | omega | simp <;> omega); (first | omega | simp <;> omega))) | (refine Z1f ?_; first | (refine Z0c rfl (fun w' hb => Z11 (hr.mono (S.grow hb).below) rfl ?_ ?_ rfl) ?_; (first | omega | simp <;> omega); (first | omega | simp <;> omega)) | refine Z0c rfl (fun w' hb => Z0b (i := 1) (S.grow hb) rfl rfl rfl) ?_) | (refine Z1v ?_; refine Z20 rfl (fun w' hb => Z0w rfl rfl rfl) (fun w' hb => Z47 (by omega) (by omega) (by omega)) ?_) | (first | (refine Z05 rfl (Z03 (i := 0) S rfl rfl rfl rfl (dqq rfl) (dqq rfl)) ?_; clear S; intro w S) | (refine Z05 rfl (Z03 (i := 1) S rfl rfl rfl rfl (dqq rfl) (dqq rfl)) ?_; clear S; intro w S) | (refine Z05 rfl (Z03 (i := 2) S rfl rfl rfl rfl (dqq rfl) (dqq rfl)) ?_; clear S; intro w S) | (refine Z05 rfl (Z03 (i := 3) S rfl rfl rfl rfl (dqq rfl) (dqq rfl)) ?_; clear S; intro w S)))
   exact ⟨_, (⟨_, _, _, _, _, _, _⟩ : GPosting), ⟨rfl, rfl, rfl, rfl, rfl, rfl, trivial⟩, S⟩
  clear S
  rintro σ w1 ⟨b9, po, hs, S⟩
  refine Z1o hs ?_
  clear hs
  refine Z0a ?_
  refine Z2c (fun σ w1 => ∃ (b10 : Nat) (acc1 cl1 e : Int) (A1 : Option Addr) (c1 : Nat) (L1 : List GPosting), Has σ [(1, .slice A xs.length c), (4, .pointer (some ⟨b4, 0, none⟩)), (5, .pointer (some ⟨b5, 0, none⟩)), (6, .int .i64 d'), (7, .int .i64 p), (10, .pointer (some ⟨b10, 0, none⟩)), (12, .int .i64 e)] ∧ St w0 w1 [.var b4 27 (bkV 0 (.slice none 0 0) 0), .var b5 27 (bkV acc (.slice AB L.length cB) cl), rowP (.slice AB L.length cB) L, rowP (.slice A1 L1.length c1) L1, .var b10 27 (bkV acc1 (.slice A1 L1.length c1) cl1)] ∧ (e = 0 → acc1 = acc ∧ L1.length ≤ L.length + 2)) ?_ ?_
  ·repeat' (first | refine Z02 ?_ | (first | refine Z00 rfl (Z0m (i := 1) S rfl rfl rfl rfl) ?_ | refine Z00 rfl (Z0m (i := 3) S rfl rfl rfl rfl) ?_))
   refine Z25 rfl (Z0w rfl rfl rfl) (Z8r (p := po) (S.rdRow (D := Z0o) (i := 2) rfl) (by omega)) ?_
   rintro r w hb hP
   unfold Z5x at hP
   by_cases hok : Z3a acc cl L po = true
   ·rw [if_pos hok] at hP
    obtain ⟨v', rfl, S'⟩ := hP
    obtain ⟨A1, c1, hz⟩ := (S'.rdRow (D := Z0o) (i := 0) rfl).len; subst hz
    replace S := S.join S'; clear hb S'
    replace S := S.keep [true, true, true, false, true]
    replace S : St w0 w [.var b4 27 (bkV 0 (.slice none 0 0) 0), .var b5 27 (bkV acc (.slice AB L.length cB) cl), rowP (.slice AB L.length cB) L, rowP (.slice A1 (L ++ [po]).length c1) (L ++ [po])] := S
    repeat' (first | refine Z08 ?_ | refine Z01 ?_ | refine Z06 rfl ?_ | refine Z04 rfl ?_ | refine Z00 rfl (Z0y rfl rfl) ?_ | (refine Z0n rfl (Z1i S) ?_; rintro _ w ⟨b, rfl, -, S'⟩; replace S := S'; clear S') | (first | (refine Z05 rfl (Z03 (i := 0) S rfl rfl rfl rfl (dqq rfl) (dqq rfl)) ?_; clear S; intro w S) | (refine Z05 rfl (Z03 (i := 1) S rfl rfl rfl rfl (dqq rfl) (dqq rfl)) ?_; clear S; intro w S) | (refine Z05 rfl (Z03 (i := 2) S rfl rfl rfl rfl (dqq rfl) (dqq rfl)) ?_; clear S; intro w S) | (refine Z05 rfl (Z03 (i := 3) S rfl rfl rfl rfl (dqq rfl) (dqq rfl)) ?_; clear S; intro w S) | (refine Z05 rfl (Z03 (i := 4) S rfl rfl rfl rfl (dqq rfl) (dqq rfl)) ?_; clear S; intro w S)))
    exact ⟨_, _, _, _, _, _, _, ⟨rfl, rfl, rfl, rfl, rfl, rfl, rfl, trivial⟩, S, fun _ => ⟨rfl, by simp⟩⟩
   ·rw [if_neg hok] at hP
    subst hP
    replace S := S.grow hb; clear hb
    replace S := (S.keep [true, true, true, false]).nilRow Z0o 84
    replace S : St w0 w [.var b4 27 (bkV 0 (.slice none 0 0) 0), .var b5 27 (bkV acc (.slice AB L.length cB) cl), rowP (.slice AB L.length cB) L, rowP (.slice none ([] : List GPosting).length 0) []] := S
    repeat' (first | refine Z08 ?_ | refine Z01 ?_ | refine Z06 rfl ?_ | refine Z04 rfl ?_ | refine Z00 rfl (Z0y rfl rfl) ?_ | (refine Z0n rfl (Z1i S) ?_; rintro _ w ⟨b, rfl, -, S'⟩; replace S := S'; clear S') | (first | (refine Z05 rfl (Z03 (i := 0) S rfl rfl rfl rfl (dqq rfl) (dqq rfl)) ?_; clear S; intro w S) | (refine Z05 rfl (Z03 (i := 1) S rfl rfl rfl rfl (dqq rfl) (dqq rfl)) ?_; clear S; intro w S) | (refine Z05 rfl (Z03 (i := 2) S rfl rfl rfl rfl (dqq rfl) (dqq rfl)) ?_; clear S; intro w S) | (refine Z05 rfl (Z03 (i := 3) S rfl rfl rfl rfl (dqq rfl) (dqq rfl)) ?_; clear S; intro w S) | (refine Z05 rfl (Z03 (i := 4) S rfl rfl rfl rfl (dqq rfl) (dqq rfl)) ?_; clear S; intro w S)))
    exact ⟨_, _, _, _, _, _, [], ⟨rfl, rfl, rfl, rfl, rfl, rfl, rfl, trivial⟩, S, fun h => absurd h (by decide)⟩
  clear S
  rintro σ w1 ⟨b10, acc1, cl1, e1, A1, c1, L1, hs, S, hok1⟩
  refine Z1o hs ?_
  clear hs
  obtain ⟨k, hk⟩ : ∃ k, Z26 (nth xs p).a0 6 = k := ⟨_, rfl⟩
  refine Z0a ?_
  refine Z2c (fun σ w1 => ∃ (acc2 cl2 e2 d2 : Int) (A2 : Option Addr) (c2 : Nat) (L2 : List GPosting), Has σ [(1, .slice A xs.length c), (4, .pointer (some ⟨b4, 0, none⟩)), (5, .pointer (some ⟨b5, 0, none⟩)), (6, .int .i64 d2), (7, .int .i64 p), (10, .pointer (some ⟨b10, 0, none⟩)), (12, .int .i64 e2)] ∧ St w0 w1 [.var b4 27 (bkV 0 (.slice none 0 0) 0), .var b5 27 (bkV acc (.slice AB L.length cB) cl), .var b10 27 (bkV acc2 (.slice A2 L2.length c2) cl2), rowP (.slice AB L.length cB) L, rowP (.slice A2 L2.length c2) L2] ∧ (e2 = 0 → acc2 = acc ∧ L2.length ≤ L.length + 2) ∧ 0 ≤ d2 ∧ d2 ≤ 359) ?_ ?_
  ·by_cases h4 : k = 4
   ·have h4' : Z26 (nth xs p).a0 6 = 4 := hk.trans h4
    have r7 := Z1m (c := (nth xs p).a3) (n := (L.length : Int) + 1) (by omega)
    repeat' (first | refine Z0a ?_ | refine Z02 ?_ | refine Z08 ?_ | refine Z01 ?_ | refine Z0f ?_ | refine Z06 rfl ?_ | refine Z04 rfl ?_ | refine Z00 rfl (Z2k rfl rfl) ?_ | (first | (refine Z00 rfl (Z07 (hr.mono S.below) rfl rfl ?_ ?_) ?_; (first | omega | simp <;> omega); (first | omega | simp <;> omega)) | (refine Z00 rfl (Z17 rfl rfl ?_ ?_) ?_; (first | omega | simp <;> omega); (first | omega | simp <;> omega))) | ((refine Z00 rfl (Z0i (hr.mono S.below) rfl ?_ ?_ rfl) ?_; (first | omega | simp <;> omega); (first | omega | simp <;> omega))) | ((refine Z0j rfl (Z0w rfl rfl rfl) (Z47 (by omega) (by omega) (by omega)) ?_; intro w hb; replace S := S.grow hb; clear hb)) | (refine Z0g rfl (fun h => ?_) (fun h => ?_) <;> (fail_if_success first | have := ntT h | have := ntF h) <;> (try simp only [tdyB] at h) <;> (try (exfalso; omega)) <;> (try (exfalso; omega; done))))
    refine Z3r (fun w' => St w0 w' [.var b4 27 (bkV 0 (.slice none 0 0) 0), .var b5 27 (bkV acc (.slice AB L.length cB) cl), rowP (.slice AB L.length cB) L]) (.vals [0, 1, 2, 6, 11, 12, 13, 3, 7, 14, 4, 8, 15, 5, 9, 16] (.one 10 (.one 17 (.one 18 (.vals [19, 20, 21] (.one 22 (.vals [23] .fin))))))) (by kernel_rfl) (by decide) (by decide +kernel) (fun w' hb => (S.grow hb).keep [true, true, true]) ?_
    intro w' hb; replace S := S.grow hb; clear hb
    refine Z1y ?_
    repeat' (first | refine Z1z ?_ | (refine Z3i ?_; refine Z0p rfl (fun w' hJ => ⟨rfl⟩) ?_) | (refine Z2n ?_; refine Z0p rfl (fun w' hJ => ⟨rfl⟩) ?_) | (refine Zct ?_; (refine Z0p rfl (fun w' hJ => Z12 rfl rfl ?_ ?_) ?_; (first | omega | simp <;> omega); (first | omega | simp <;> omega))) | (refine Zcu ?_; refine Z0p rfl (fun w' hJ => Z0e rfl) ?_) | (refine Z30 ?_; refine Z0p rfl (fun w' hJ => Z09 rfl) ?_) | (refine Z6t ?_; first | (refine Z0p rfl (fun w' hJ => Z07 (hr.mono hJ.below) rfl rfl ?_ ?_) ?_; (first | omega | simp <;> omega); (first | omega | simp <;> omega)) | (refine Z0p rfl (fun w' hJ => Z17 rfl rfl ?_ ?_) ?_; (first | omega | simp <;> omega); (first | omega | simp <;> omega))) | (refine Z5b ?_; first | (refine Z0p rfl (fun w' hJ => Z11 (hr.mono hJ.below) rfl ?_ ?_ rfl) ?_; (first | omega | simp <;> omega); (first | omega | simp <;> omega)) | refine Z0p rfl (fun w' hJ => Z0b (i := 1) hJ rfl rfl rfl) ?_ | refine Z0p rfl (fun w' hJ => Z0m (i := 1) hJ rfl rfl rfl rfl) ?_))
    refine Z2b ?_; refine Z8l rfl (Z0w rfl rfl rfl) (Z47 (by omega) (by omega) (by omega)) ?_; intro w hb; replace S := S.grow hb; clear hb; refine ⟨S.keep [true, true, true], ?_⟩
    refine Z2b ?_; refine Z8l rfl (Z0w rfl rfl rfl) (Z47 (by omega) (by omega) (by omega)) ?_; intro w hb; replace S := S.grow hb; clear hb; refine ⟨S.keep [true, true, true], ?_⟩
    refine Z2b ?_; refine Z3q rfl (Z3g rfl rfl rfl rfl rfl) (Zev (S.rdRow (D := Z0o) (i := 2) rfl) (by omega)) ?_
    rintro r w hb hP
    unfold Z96 at hP
    split at hP
    ·obtain ⟨v', rfl, S'⟩ := hP
     obtain ⟨A2, c2, hz⟩ := (S'.rdRow (D := Z0o) (i := 0) rfl).len; subst hz
     replace S := S.join S'; clear hb S'
     have hdl := @Zld L (Z26 (nth xs p).a3 ((L.length : Int) + 1)) d' (Z26 (nth xs p).a4 1000)
     refine ⟨S.keep [true, true, true], ?_⟩
     refine Z1y ?_; refine Z0p rfl (fun w' hJ => ⟨rfl⟩) ?_; refine Z0p rfl (fun w' hJ => Z0y rfl rfl) ?_; refine Z0p rfl (fun w' hJ => Z0y rfl rfl) ?_; refine Z1z ?_
     refine Z2b ?_; refine Z3c rfl (Z03 (i := 4) S rfl rfl rfl rfl (dqq rfl) (dqq rfl)) ?_; clear S; intro w S; refine ⟨S.keep [true, true, true], ?_⟩
     refine Z1y ?_; refine Z0p rfl (fun w' hJ => ⟨rfl⟩) ?_; refine Z1z ?_; refine Z3t ?_; refine Z1x ?_
     repeat' (first | refine Z01 ?_ | refine Z0h ?_)
     replace S : St w0 w [.var b4 27 (bkV 0 (.slice none 0 0) 0), .var b5 27 (bkV acc (.slice AB L.length cB) cl), rowP (.slice AB L.length cB) L, rowP (.slice A1 L1.length c1) L1, .var b10 27 (bkV acc (.slice A2 (Z70 L (Z26 (nth xs p).a3 ((L.length : Int) + 1)) d' (Z26 (nth xs p).a4 1000)).length c2) cl), rowP (.slice A2 (Z70 L (Z26 (nth xs p).a3 ((L.length : Int) + 1)) d' (Z26 (nth xs p).a4 1000)).length c2) (Z70 L (Z26 (nth xs p).a3 ((L.length : Int) + 1)) d' (Z26 (nth xs p).a4 1000))] := S
     exact ⟨_, _, _, _, _, _, _, ⟨rfl, rfl, rfl, rfl, rfl, rfl, rfl, trivial⟩, (S.keep [true, true, true, false, true, true]).perm (List.Perm.cons _ (List.Perm.cons _ (List.Perm.swap _ _ _))), fun _ => ⟨rfl, hdl⟩, hdr'.1, hdr'.2⟩
    ·subst hP
     replace S := (S.grow hb).nilRow Z0o 84; clear hb
     replace S : St w0 w [.var b4 27 (bkV 0 (.slice none 0 0) 0), .var b5 27 (bkV acc (.slice AB L.length cB) cl), rowP (.slice AB L.length cB) L, rowP (.slice A1 L1.length c1) L1, .var b10 27 (bkV acc1 (.slice A1 L1.length c1) cl1), rowP (.slice none ([] : List GPosting).length 0) []] := S
     refine ⟨S.keep [true, true, true], ?_⟩
     refine Z1y ?_; refine Z0p rfl (fun w' hJ => ⟨rfl⟩) ?_; refine Z0p rfl (fun w' hJ => Z0y rfl rfl) ?_; refine Z0p rfl (fun w' hJ => Z0y rfl rfl) ?_; refine Z1z ?_
     refine Z2b ?_; refine Z3c rfl (Z03 (i := 4) S rfl rfl rfl rfl (dqq rfl) (dqq rfl)) ?_; clear S; intro w S; refine ⟨S.keep [true, true, true], ?_⟩
     refine Z1y ?_; refine Z0p rfl (fun w' hJ => ⟨rfl⟩) ?_; refine Z1z ?_; refine Z3t ?_; refine Z1x ?_
     repeat' (first | refine Z01 ?_ | refine Z0h ?_)
     replace S : St w0 w [.var b4 27 (bkV 0 (.slice none 0 0) 0), .var b5 27 (bkV acc (.slice AB L.length cB) cl), rowP (.slice AB L.length cB) L, rowP (.slice A1 L1.length c1) L1, .var b10 27 (bkV 0 (.slice none ([] : List GPosting).length 0) 0), rowP (.slice none ([] : List GPosting).length 0) []] := S
     exact ⟨_, _, _, _, _, _, [], ⟨rfl, rfl, rfl, rfl, rfl, rfl, rfl, trivial⟩, (S.keep [true, true, true, false, true, true]).perm (List.Perm.cons _ (List.Perm.cons _ (List.Perm.swap _ _ _))), fun h => absurd h (by decide), hdr'.1, hdr'.2⟩
   ·by_cases h5 : k = 5
    ·have h5' : Z26 (nth xs p).a0 6 = 5 := hk.trans h5
     repeat' (first | refine Z0a ?_ | refine Z02 ?_ | refine Z08 ?_ | refine Z01 ?_ | refine Z0f ?_ | refine Z06 rfl ?_ | refine Z04 rfl ?_ | refine Z00 rfl (Z2k rfl rfl) ?_ | refine Z00 rfl (Z09 rfl) ?_ | (first | (refine Z00 rfl (Z07 (hr.mono S.below) rfl rfl ?_ ?_) ?_; (first | omega | simp <;> omega); (first | omega | simp <;> omega)) | (refine Z00 rfl (Z17 rfl rfl ?_ ?_) ?_; (first | omega | simp <;> omega); (first | omega | simp <;> omega))) | (first | (refine Z00 rfl (Z0i (hr.mono S.below) rfl ?_ ?_ rfl) ?_; (first | omega | simp <;> omega); (first | omega | simp <;> omega)) | refine Z00 rfl (Z0b (i := 1) S rfl rfl rfl) ?_ | refine Z00 rfl (Z0m (i := 1) S rfl rfl rfl rfl) ?_) | ((refine Z0j rfl (Z0w rfl rfl rfl) (Z47 (by omega) (by omega) (by omega)) ?_; intro w hb; replace S := S.grow hb; clear hb)) | (refine Z0g rfl (fun h => ?_) (fun h => ?_) <;> (fail_if_success first | have := ntT h | have := ntF h) <;> (try simp only [tdyB] at h) <;> (try (exfalso; omega)) <;> (try (exfalso; omega; done))))
     refine Z25 rfl (Z0w rfl rfl rfl) (Zih (S.rdRow (D := Z0o) (i := 2) rfl) (by omega)) ?_
     rintro r w hb hP
     unfold Zeu at hP
     split at hP
     ·obtain ⟨v', rfl, S'⟩ := hP
      obtain ⟨A2, c2, hz⟩ := (S'.rdRow (D := Z0o) (i := 0) rfl).len; subst hz
      replace S := S.join S'; clear hb S'
      replace S : St w0 w [.var b4 27 (bkV 0 (.slice none 0 0) 0), .var b5 27 (bkV acc (.slice AB L.length cB) cl), rowP (.slice AB L.length cB) L, rowP (.slice A1 L1.length c1) L1, .var b10 27 (bkV acc1 (.slice A1 L1.length c1) cl1), rowP (.slice A2 L.length c2) L] := S
      repeat' (first | refine Z02 ?_ | refine Z08 ?_ | refine Z01 ?_ | refine Z0h ?_ | refine Z06 rfl ?_ | refine Z04 rfl ?_ | refine Z00 rfl (r_mul rfl rfl) ?_ | refine Z00 rfl (Z0y rfl rfl) ?_ | refine Z00 rfl (Z6k rfl rfl) ?_ | refine Z00 rfl (Z6l rfl rfl) ?_ | refine Z00 rfl (Z09 rfl) ?_ | refine Z00 rfl (Z0b (i := 4) S rfl rfl rfl) ?_ | (first | (refine Z05 rfl (Z03 (i := 0) S rfl rfl rfl rfl (dqq rfl) (dqq rfl)) ?_; clear S; intro w S) | (refine Z05 rfl (Z03 (i := 1) S rfl rfl rfl rfl (dqq rfl) (dqq rfl)) ?_; clear S; intro w S) | (refine Z05 rfl (Z03 (i := 2) S rfl rfl rfl rfl (dqq rfl) (dqq rfl)) ?_; clear S; intro w S) | (refine Z05 rfl (Z03 (i := 3) S rfl rfl rfl rfl (dqq rfl) (dqq rfl)) ?_; clear S; intro w S) | (refine Z05 rfl (Z03 (i := 4) S rfl rfl rfl rfl (dqq rfl) (dqq rfl)) ?_; clear S; intro w S)))
      exact ⟨_, _, _, _, _, _, _, ⟨rfl, rfl, rfl, rfl, rfl, rfl, rfl, trivial⟩, (S.keep [true, true, true, false, true, true]).perm (List.Perm.cons _ (List.Perm.cons _ (List.Perm.swap _ _ _))), fun _ => ⟨rfl, by omega⟩, by omega, by omega⟩
     ·subst hP
      replace S := (S.grow hb).nilRow Z0o 84; clear hb
      replace S : St w0 w [.var b4 27 (bkV 0 (.slice none 0 0) 0), .var b5 27 (bkV acc (.slice AB L.length cB) cl), rowP (.slice AB L.length cB) L, rowP (.slice A1 L1.length c1) L1, .var b10 27 (bkV acc1 (.slice A1 L1.length c1) cl1), rowP (.slice none ([] : List GPosting).length 0) []] := S
      repeat' (first | refine Z02 ?_ | refine Z08 ?_ | refine Z01 ?_ | refine Z0h ?_ | refine Z06 rfl ?_ | refine Z04 rfl ?_ | ((refine Z00 rfl (Z5f rfl rfl ?_ ?_) ?_; (first | omega | simp <;> omega); (first | omega | simp <;> omega))) | refine Z00 rfl (Z0y rfl rfl) ?_ | refine Z00 rfl (Z6k rfl rfl) ?_ | refine Z00 rfl (Z6l rfl rfl) ?_ | refine Z00 rfl (Z09 rfl) ?_ | refine Z00 rfl (Z0b (i := 4) S rfl rfl rfl) ?_ | (first | (refine Z05 rfl (Z03 (i := 0) S rfl rfl rfl rfl (dqq rfl) (dqq rfl)) ?_; clear S; intro w S) | (refine Z05 rfl (Z03 (i := 1) S rfl rfl rfl rfl (dqq rfl) (dqq rfl)) ?_; clear S; intro w S) | (refine Z05 rfl (Z03 (i := 2) S rfl rfl rfl rfl (dqq rfl) (dqq rfl)) ?_; clear S; intro w S) | (refine Z05 rfl (Z03 (i := 3) S rfl rfl rfl rfl (dqq rfl) (dqq rfl)) ?_; clear S; intro w S) | (refine Z05 rfl (Z03 (i := 4) S rfl rfl rfl rfl (dqq rfl) (dqq rfl)) ?_; clear S; intro w S)))
      exact ⟨_, _, _, _, _, _, [], ⟨rfl, rfl, rfl, rfl, rfl, rfl, rfl, trivial⟩, (S.keep [true, true, true, false, true, true]).perm (List.Perm.cons _ (List.Perm.cons _ (List.Perm.swap _ _ _))), fun h => absurd h (by decide), by omega, by omega⟩
    ·repeat' (first | refine Z0a ?_ | refine Z02 ?_ | refine Z08 ?_ | refine Z01 ?_ | refine Z0h ?_ | refine Z0k ?_ | refine Z0f ?_ | refine Z06 rfl ?_ | refine Z04 rfl ?_ | refine Z00 rfl (Z2k rfl rfl) ?_ | (first | (refine Z00 rfl (Z07 (hr.mono S.below) rfl rfl ?_ ?_) ?_; (first | omega | simp <;> omega); (first | omega | simp <;> omega)) | (refine Z00 rfl (Z17 rfl rfl ?_ ?_) ?_; (first | omega | simp <;> omega); (first | omega | simp <;> omega))) | ((refine Z00 rfl (Z0i (hr.mono S.below) rfl ?_ ?_ rfl) ?_; (first | omega | simp <;> omega); (first | omega | simp <;> omega))) | ((refine Z0j rfl (Z0w rfl rfl rfl) (Z47 (by omega) (by omega) (by omega)) ?_; intro w hb; replace S := S.grow hb; clear hb)) | (refine Z0g rfl (fun h => ?_) (fun h => ?_) <;> (fail_if_success first | have := ntT h | have := ntF h) <;> (try simp only [tdyB] at h) <;> (try (exfalso; omega)) <;> (try (exfalso; omega; done))))
     exact ⟨_, _, _, _, _, _, _, ⟨rfl, rfl, rfl, rfl, rfl, rfl, rfl, trivial⟩, S.perm (List.Perm.cons _ (List.Perm.cons _ (List.perm_append_comm (l₁ := [_, _]) (l₂ := [_])))), hok1, hdr'.1, hdr'.2⟩
  clear S
  rintro σ w1 ⟨acc2, cl2, e2, d2, A2, c2, L2, hs, S, hok2, hd20, hd21⟩
  refine Z1o hs ?_
  clear hs
  by_cases he : e2 = 0
  ·obtain ⟨rfl, hl2⟩ := hok2 he
   repeat' (first | refine Z0a ?_ | refine Z02 ?_ | refine Z08 ?_ | refine Z01 ?_ | refine Z0h ?_ | refine Z06 rfl ?_ | refine Z04 rfl ?_ | ((refine Z00 rfl (Z12 rfl rfl ?_ ?_) ?_; (first | omega | simp <;> omega); (first | omega | simp <;> omega))) | refine Z00 rfl (Z2k rfl rfl) ?_ | refine Z00 rfl (Z0m (i := 2) S rfl rfl rfl rfl) ?_ | (first | (refine Z05 rfl (Z03 (i := 0) S rfl rfl rfl rfl (dqq rfl) (dqq rfl)) ?_; clear S; intro w S) | (refine Z05 rfl (Z03 (i := 1) S rfl rfl rfl rfl (dqq rfl) (dqq rfl)) ?_; clear S; intro w S) | (refine Z05 rfl (Z03 (i := 2) S rfl rfl rfl rfl (dqq rfl) (dqq rfl)) ?_; clear S; intro w S)) | (refine Z0g rfl (fun h => ?_) (fun h => ?_) <;> (fail_if_success first | have := ntT h | have := ntF h) <;> (try simp only [tdyB] at h) <;> (try (exfalso; omega)) <;> (try (exfalso; exact absurd he (by simpa using h); done))))
   refine ⟨⟨_, ?_, i + 1, _, _, _, _, _, _, ⟨rfl, rfl, rfl, rfl, rfl, trivial⟩, S.keep [true, true, false, false, true], by omega, by omega, by omega, by omega, by omega, rfl⟩⟩
   omega
  ·repeat' (first | refine Z0a ?_ | refine Z02 ?_ | refine Z08 ?_ | refine Z01 ?_ | refine Z0h ?_ | refine Z0k ?_ | refine Z06 rfl ?_ | refine Z04 rfl ?_ | ((refine Z00 rfl (Z12 rfl rfl ?_ ?_) ?_; (first | omega | simp <;> omega); (first | omega | simp <;> omega))) | refine Z00 rfl (Z2k rfl rfl) ?_ | (refine Z0g rfl (fun h => ?_) (fun h => ?_) <;> (fail_if_success first | have := ntT h | have := ntF h) <;> (try simp only [tdyB] at h) <;> (try (exfalso; omega)) <;> (try (exfalso; exact absurd (by simpa using h) he; done))))
   refine ⟨⟨_, ?_, i + 1, _, _, _, _, _, _, ⟨rfl, rfl, rfl, rfl, rfl, trivial⟩, S.keep [true, true, false, true, false], by omega, by omega, by omega, by omega, by omega, rfl⟩⟩
   omega
 ·have hie : i = min xs.length 24 := by omega
  repeat' (first | refine Z0a ?_ | refine Z02 ?_ | refine Z08 ?_ | refine Z01 ?_ | refine Z0s ?_ | refine Z15 ?_ | refine Z0r ?_ | refine Z1b ?_ | refine Z18 rfl ?_ | (refine Z1c ?_; refine Z1p rfl ?_) | refine Z06 rfl ?_ | (first | refine Z0u rfl rfl ?_ | refine Z0t rfl rfl ?_) | refine Z00 rfl (Z0z rfl rfl) ?_ | refine Z00 rfl (Z0e rfl) ?_ | refine Z00 rfl (Z0m (i := 1) S rfl rfl rfl rfl) ?_ | (first | (refine Z05 rfl (Z03 (i := 0) S rfl rfl rfl rfl (dqq rfl) (dqq rfl)) ?_; clear S; intro w S) | (refine Z05 rfl (Z03 (i := 1) S rfl rfl rfl rfl (dqq rfl) (dqq rfl)) ?_; clear S; intro w S)) | (refine Z13 rfl rfl (fun h => ?_) (fun h => ?_) <;> (fail_if_success first | have := ntT h | have := ntF h) <;> (try simp only [tdyB] at h) <;> (try (exfalso; omega)) <;> (try (exfalso; omega; done))) | (refine Z0g rfl (fun h => ?_) (fun h => ?_) <;> (fail_if_success first | have := ntT h | have := ntF h) <;> (try simp only [tdyB] at h) <;> (try (exfalso; omega)) <;> (try (exfalso; omega; done))))
  all_goals
   refine Zcq rfl rfl S (i := 0) rfl rfl ?_
   exact ⟨_, rfl, S.below, _, _, _, _, rfl, by omega, S.keep [false, false, true]⟩

abbrev BK := Int × SH × Int
def fBk : Flat BK := ⟨3, fun x => bkV x.1 (shV x.2.1) x.2.2, fun _ => rfl⟩
theorem Zcj {α : Type} {D : Flat α} {v : Value} {l : List α} {w : World} (R : Rd D.ty w v l) (n : Nat) (hn : n ≤ l.length) : ∃ (A : Option Addr) (c : Nat), Z7m v 0 n D.sz = .slice A (l.take n).length c ∧ Rd D.ty w (.slice A (l.take n).length c) (l.take n) := by
 have h := R.cut (lo := 0) (hi := n) (by omega) hn
 rw [List.drop_zero] at h
 obtain ⟨A, c, e⟩ := h.len
 exact ⟨A, c, e, e ▸ h⟩
theorem Z5k {P : Program} {ρ : Operand → Value} {w : World} {d : Option Tmp} {ty : TypeId} {pos : String} {af : Array Edge} {g : Option (Nat × Bool)} {T : TypeId} {s : Operand} {α : Type} {D : Ty α} {v u : Value} {l : List α} {e : TypeId} {ag : Bool} {b : Operand} {k' : IntKind} {hi : Int} [hT : IsSlice P T e] [hS : TF P e ag D.sz] (he : Z7m v 0 hi.toNat D.sz = u) (hR : Rd D w v l) (h1 : ρ s = v) (h3 : ρ b = .int k' hi)
  (h4 : 0 ≤ hi) (h5 : hi ≤ l.length) : Gx.Runs P ρ ⟨d, .slice T s none (some b) none, ty, pos, af, g⟩ w (.ok (.value u) w) := by
 rw [← he]; exact Z61 hR h1 h3 h4 h5
theorem Zbq {P : Program} {ρ : Operand → Value} {w : World} {d : Option Tmp} {ty : TypeId} {pos : String} {af : Array Edge} {g : Option (Nat × Bool)} {T : TypeId} {s : Operand} {α : Type} [Inhabited α] {D : Flat α} {v : Value} {u : List Value} {l : List α} {i : Int} [TF P T true D.sz] (hR : Rd D.ty w v l) (h1 : ρ s = .pointer (some (Z3z v D.sz i.toNat))) (hu : D.enc (nth l i) = u) (h0 : 0 ≤ i) (hl : i < l.length) :
  Gx.Runs P ρ ⟨d, .load T s, ty, pos, af, g⟩ w (.ok (.value (.agg u.toArray)) w) := by rw [← hu]; exact Z19 hR h1 h0 hl
theorem delI_len (l : List GContract) (sp : List GSpot) (vs : List GVerdict) (fr : Int) : (delI l sp vs fr).1.length ≤ sp.length := by
 unfold delI; split
 ·exact List.length_filter_le ..
 ·simp
theorem dueI_len (l : List GContract) (sp : List GSpot) : (dueI l sp).1.length ≤ l.length := by
 unfold dueI; split
 ·show (dueL l sp).length ≤ _; rw [Zaa]; exact Nat.le_refl _
 ·simp
theorem Zlf (t : Int) (w : List Int) : (shI t w).1.length ≤ w.length := by
 unfold shI; split
 ·show (shW t w).length ≤ _; unfold shW; rw [Zfm]; exact Nat.le_refl _
 ·simp
theorem royI_len (t : Int) (l : List Int) (vs : List GVerdict) : (royI t l vs).1.length ≤ l.length := by
 unfold royI; split
 ·split
  ·show (wts l vs).length ≤ _; rw [Zda]; exact Nat.le_refl _
  ·have := Zlf t (wts l vs); rw [Zda] at this; exact this
 ·simp
def setO (acc cl : Int) (L : List GPosting) (l : List GContract) (sp : List GSpot) (day : Int) : (Int × Int × List GPosting) × Int :=
 match setI acc cl L l sp day with
 | some L' => ((acc, cl, L'), 0)
 | none => ((0, 0, []), 390)
theorem Zdk {acc cl day : Int} {L : List GPosting} {l : List GContract} {sp : List GSpot} {r : Value} {w0 w' : World} (hb : Below w0.heap.size w0 w') (h : Z5e w0 acc cl L l sp day r w') :
  ∃ (A : Option Addr) (c : Nat), r = .tuple (.agg (bkV (setO acc cl L l sp day).1.1 (.slice A (setO acc cl L l sp day).1.2.2.length c) (setO acc cl L l sp day).1.2.1).toArray :: [.int .i64 (setO acc cl L l sp day).2]).toArray ∧ St w0 w' [rowP (.slice A (setO acc cl L l sp day).1.2.2.length c) (setO acc cl L l sp day).1.2.2] := by
 unfold Z5e at h
 unfold setO
 cases e : setI acc cl L l sp day with
 | some L' =>
  rw [e] at h
  obtain ⟨v', rfl, S'⟩ := h
  obtain ⟨A, c, hz⟩ := (S'.rdRow (D := Z0o) (i := 0) rfl).len; subst hz
  exact ⟨A, c, rfl, S'⟩
 | none =>
  rw [e] at h
  subst h
  exact ⟨none, 0, rfl, ((St.start w0).grow hb).nilRow Z0o 84⟩
theorem Zbr {acc cl day : Int} {f : GContract → Int} : ∀ {l : List GContract} {L L' : List GPosting}, setL acc cl day f l L = some L' → L'.length ≤ L.length + 2 * l.length
 | [], L, L', h => by rw [setL] at h; have h := Option.some.inj h; rw [← h]; simp
 | c :: r, L, L', h => by
  rw [setL] at h
  cases e : Z39 acc cl L c (f c) day with
  | none => rw [e] at h; cases h
  | some L1 =>
   rw [e] at h
   have h1 := Z6j e
   have h2 := Zbr h
   rw [List.length_cons]; omega
theorem setO_len (acc cl : Int) (L : List GPosting) (l : List GContract) (sp : List GSpot) (day : Int) : (setO acc cl L l sp day).1.2.2.length ≤ L.length + 2 * l.length := by
 unfold setO
 cases e : setI acc cl L l sp day with
 | some L' =>
  show L'.length ≤ _
  unfold setI at e
  split at e
  ·exact Zbr e
  ·cases e
 | none => simp
set_option maxRecDepth 20000 in
set_option maxHeartbeats 8000000 in
theorem Zbs {vC vS vV vP vW vI vx vy vv vz : Value} {C : List GContract} {Sp : List GSpot} {V : List GVerdict} {Po : List GPosting} {W I : List Int} {xs : List GArr8Int} {ys : List GArr2Int} {zs : List Int} {us : List GArr5Int} {acc0 cl0 which accounts from_ day total : Int} {okC : GContract → Prop} {okS : GSpot → Prop} {okV : GVerdict → Prop} {okP : GPosting → Prop} {w0 : World} (hG : Z8e w0)
  (hrC : Rd Z14.ty w0 vC C) (_ : ∀ x ∈ C, okC x) (hCl : C.length ≤ maxLen) (hrS : Rd Z1d.ty w0 vS Sp) (_ : ∀ x ∈ Sp, okS x) (hSl : Sp.length ≤ maxLen) (hrV : Rd Z1j.ty w0 vV V) (_ : ∀ x ∈ V, okV x) (hVl : V.length ≤ maxLen)
  (_ : inI acc0) (hrP : Rd Z0o.ty w0 vP Po) (_ : ∀ x ∈ Po, okP x) (hPl : Po.length ≤ maxLen) (_ : inI cl0) (hrW : Rd (fInt .i64).ty w0 vW W) (_ : ∀ x ∈ W, inI x) (hWl : W.length ≤ maxLen) (hrI : Rd (fInt .i64).ty w0 vI I) (_ : ∀ x ∈ I, inI x) (hIl : I.length ≤ maxLen)
  (hr1 : Rd Zaq.ty w0 vx xs) (hx : ∀ x ∈ xs, okA8 x) (hxl : xs.length ≤ maxLen) (hr2 : Rd Zar.ty w0 vy ys) (hy : ∀ y ∈ ys, okA2 y) (hyl : ys.length ≤ maxLen) (hw : inI which) (hr3 : Rd (fInt .i64).ty w0 vv zs) (hz : ∀ z ∈ zs, inI z) (hzl : zs.length ≤ maxLen) (hac : inI accounts)
  (hr5 : Rd Zas.ty w0 vz us) (hu : ∀ u ∈ us, okA5 u) (hul : us.length ≤ maxLen) (hfrI : inI from_) (hdI : inI day) (htI : inI total) :
  CallsV Tryd.prog 3 #[.agg [vC, vS, vV, .int .i64 acc0, vP, .int .i64 cl0, vW, vI].toArray, vx, vy, .int .i64 which, vv, .int .i64 accounts, vz, .int .i64 from_, .int .i64 day, .int .i64 total] w0 (.bool true) := by
 have S := St.start w0
 have hml : maxLen ≤ 9223372036854775807 := by decide
 obtain ⟨XC, xC, hzz⟩ := hrC.len; subst hzz
 obtain ⟨XS, xS, hzz⟩ := hrS.len; subst hzz
 obtain ⟨XV, xV, hzz⟩ := hrV.len; subst hzz
 obtain ⟨XP, xP, hzz⟩ := hrP.len; subst hzz
 obtain ⟨XW, xW, hzz⟩ := hrW.len; subst hzz
 obtain ⟨XI, xI, hzz⟩ := hrI.len; subst hzz
 refine CallsV.mk ?_
 refine Z0l Tryd.func3 rfl (by intro _ h; first | exact nomatch h.1 | (obtain ⟨_, h, _⟩ := h; exact nomatch h)) Tryd.ntmps3 rfl ?_
 repeat' (first | refine Z0a ?_ | refine Z02 ?_ | refine Z08 ?_ | refine Z01 ?_ | refine Z0k ?_ | refine Z18 rfl ?_ | refine Z06 rfl ?_ | refine Z04 rfl ?_ | refine Z00 rfl (Z1w rfl) ?_ | ((refine Z0j rfl (Ziq rfl) (Zl3 (hG.mono S.below)) ?_; intro w hb; replace S := S.grow hb; clear hb)) | (refine Z2g ?_; refine Z0n rfl (Z2h S rfl) ?_; rintro _ w ⟨b, rfl, -, S'⟩; replace S := S'; clear S'))
 obtain ⟨b10, rfl⟩ : ∃ x, x = b := ⟨_, rfl⟩

 replace S : St w0 w [.var b10 30 [.slice XC C.length xC, .slice XS Sp.length xS, .slice XV V.length xV, .int .i64 acc0, .slice XP Po.length xP, .int .i64 cl0, .slice XW W.length xW, .slice XI I.length xI]] := S
 refine Z25 rfl (Z1h rfl rfl) (made_run (hr1.mono S.below) hx hxl) ?_; rintro vL w hb hrow; replace S := S.new hb hrow; clear hb hrow
 obtain ⟨l, hl⟩ : ∃ l, Zid xs = l := ⟨_, rfl⟩
 have hvl : Z2v l = true := by rw [← hl]; exact madeL_ok xs
 have hll : l.length ≤ 8 := by rw [← hl]; exact Zbk xs
 rw [hl] at S
 obtain ⟨AL, cL, hzz⟩ := (S.rdRow (D := Z14) (i := 1) rfl).len; subst hzz
 repeat' (first | refine Z0a ?_ | refine Z02 ?_ | refine Z08 ?_ | refine Z01 ?_ | refine Z06 rfl ?_ | refine Z04 rfl ?_)
 refine Z25 rfl (Z0w rfl rfl rfl) (Zl2 (S.rdRow (D := Z14) (i := 1) rfl) (hr2.mono S.below) hy (by omega) hyl) ?_; rintro vP w hb hrow; replace S := S.new hb hrow; clear hb hrow
 obtain ⟨sp, hsp⟩ : ∃ sp, Zcc l ys = sp := ⟨_, rfl⟩
 have hvp : Z3s sp = true := by rw [← hsp]; exact Zl1 hvl ys
 have hpl : sp.length ≤ 24 := by rw [← hsp]; exact Zce l ys
 rw [hsp] at S
 obtain ⟨AP, cP, hzz⟩ := (S.rdRow (D := Z1d) (i := 2) rfl).len; subst hzz
 have hok : okI l sp = true := by unfold okI; rw [hvl, hvp]; rfl
 repeat' (first | refine Z0a ?_ | refine Z02 ?_ | refine Z08 ?_ | refine Z01 ?_ | refine Z06 rfl ?_ | refine Z04 rfl ?_)
 refine Z25 rfl (Z3g rfl rfl rfl rfl rfl) (verd_run (S.rdRow (D := Z14) (i := 1) rfl) (S.rdRow (D := Z1d) (i := 2) rfl) hw (hr3.mono S.below) hz (by omega) (by omega) hzl hok) ?_
 rintro _ w hb ⟨vV', rfl, hrow⟩; replace S := S.new hb hrow; clear hb hrow
 have hvv : Z3m (verL l sp which zs) = true := verL_ok hvl
 obtain ⟨vs, hvs⟩ : ∃ vs, verL l sp which zs = vs := ⟨_, rfl⟩
 obtain ⟨fr, hfe⟩ : ∃ fr, frV sp which = fr := ⟨_, rfl⟩
 rw [hvs] at S hvv
 rw [hfe]
 have hvsl := Z68 hvv
 obtain ⟨AV, cV, hzz⟩ := (S.rdRow (D := Z1j) (i := 3) rfl).len; subst hzz
 replace S : St w0 w [.var b10 30 [.slice XC C.length xC, .slice XS Sp.length xS, .slice XV V.length xV, .int .i64 acc0, .slice XP Po.length xP, .int .i64 cl0, .slice XW W.length xW, .slice XI I.length xI], Z16 Z14 70 (.slice AL l.length cL) l, Z16 Z1d 63 (.slice AP sp.length cP) sp, Z16 Z1j 60 (.slice AV vs.length cV) vs] := S
 obtain ⟨AC, cC, eC, hRC⟩ := Zcj hrC (min (C.length : Int) 13).toNat (by omega)
 obtain ⟨AS, cS, eS, hRS⟩ := Zcj hrS (min (Sp.length : Int) 61).toNat (by omega)
 obtain ⟨AW, cW, eV, hRV⟩ := Zcj hrV (min (V.length : Int) 201).toNat (by omega)
 obtain ⟨APo, cPo, eP, hRP⟩ := Zcj hrP (min (Po.length : Int) 201).toNat (by omega)
 have hlc : (C.take (min (C.length : Int) 13).toNat).length ≤ 13 := by rw [List.length_take]; omega
 have hls : (Sp.take (min (Sp.length : Int) 61).toNat).length ≤ 61 := by rw [List.length_take]; omega
 have hlv : (V.take (min (V.length : Int) 201).toNat).length ≤ 201 := by rw [List.length_take]; omega
 have hlp : (Po.take (min (Po.length : Int) 201).toNat).length ≤ 201 := by rw [List.length_take]; omega
 obtain ⟨AX, cX, eX, hRX⟩ := Zcj hrW (min (W.length : Int) 17).toNat (by omega)
 obtain ⟨AI, cI, eI, hRI⟩ := Zcj hrI (min (I.length : Int) 17).toNat (by omega)
 have hlx : (W.take (min (W.length : Int) 17).toNat).length ≤ 17 := by rw [List.length_take]; omega
 have hli : (I.take (min (I.length : Int) 17).toNat).length ≤ 17 := by rw [List.length_take]; omega
 obtain ⟨lx, hlxe⟩ : ∃ lx, W.take (min (W.length : Int) 17).toNat = lx := ⟨_, rfl⟩
 obtain ⟨it, hite⟩ : ∃ it, I.take (min (I.length : Int) 17).toNat = it := ⟨_, rfl⟩
 rw [hlxe] at eX hRX hlx
 rw [hite] at eI hRI hli
 obtain ⟨lc, hlce⟩ : ∃ lc, C.take (min (C.length : Int) 13).toNat = lc := ⟨_, rfl⟩
 obtain ⟨ls, hlse⟩ : ∃ ls, Sp.take (min (Sp.length : Int) 61).toNat = ls := ⟨_, rfl⟩
 obtain ⟨lv, hlve⟩ : ∃ lv, V.take (min (V.length : Int) 201).toNat = lv := ⟨_, rfl⟩
 obtain ⟨lp, hlpe⟩ : ∃ lp, Po.take (min (Po.length : Int) 201).toNat = lp := ⟨_, rfl⟩
 rw [hlce] at eC hRC hlc
 rw [hlse] at eS hRS hls
 rw [hlve] at eV hRV hlv
 rw [hlpe] at eP hRP hlp
 repeat' (first | refine Z0a ?_ | refine Z02 ?_ | refine Z08 ?_ | refine Z01 ?_ | refine Z06 rfl ?_ | refine Z04 rfl ?_ | refine Z00 rfl (Z0y rfl rfl) ?_ | refine Z00 rfl (Z6l rfl rfl) ?_ | refine Z00 rfl (Z0e rfl) ?_ | refine Z00 rfl (Z09 rfl) ?_ | refine Z00 rfl (Z0b (i := 0) S rfl rfl rfl) ?_)
 refine Z00 rfl (Z5k eC (hrC.mono S.below) rfl rfl (by omega) (by omega)) ?_
 repeat' ((refine Z06 rfl ?_))
 refine Z0n rfl (Z2z (D := fSh) [((AC, lc.length, cC) : SH), (AL, l.length, cL)] shV S rfl rfl (fun _ => rfl) rfl (by decide) (by decide)) ?_
 rintro _ w ⟨k26, rfl, -, -, S'⟩; replace S := S'; clear S'
 repeat' (first | refine Z0a ?_ | refine Z02 ?_ | refine Z08 ?_ | refine Z01 ?_ | refine Z04 rfl ?_ | refine Z00 rfl (Z6l rfl rfl) ?_ | refine Z00 rfl (Z0e rfl) ?_ | refine Z00 rfl (Z09 rfl) ?_ | refine Z00 rfl (Z0b (i := 0) S rfl rfl rfl) ?_)
 refine Z00 rfl (Z5k eS (hrS.mono S.below) rfl rfl (by omega) (by omega)) ?_
 repeat' ((refine Z06 rfl ?_))
 refine Z0n rfl (Z2z (D := fSh) [((AS, ls.length, cS) : SH), (AP, sp.length, cP)] shV S rfl rfl (fun _ => rfl) rfl (by decide) (by decide)) ?_
 rintro _ w ⟨k27, rfl, -, -, S'⟩; replace S := S'; clear S'
 repeat' (first | refine Z0a ?_ | refine Z02 ?_ | refine Z08 ?_ | refine Z01 ?_ | refine Z04 rfl ?_ | refine Z00 rfl (Z6l rfl rfl) ?_ | refine Z00 rfl (Z0e rfl) ?_ | refine Z00 rfl (Z09 rfl) ?_ | refine Z00 rfl (Z0b (i := 0) S rfl rfl rfl) ?_)
 refine Z00 rfl (Z5k eV (hrV.mono S.below) rfl rfl (by omega) (by omega)) ?_
 repeat' ((refine Z06 rfl ?_))
 refine Z0n rfl (Z2z (D := fSh) [((AW, lv.length, cW) : SH), (AV, vs.length, cV)] shV S rfl rfl (fun _ => rfl) rfl (by decide) (by decide)) ?_
 rintro _ w ⟨k28, rfl, -, -, S'⟩; replace S := S'; clear S'
 repeat' (first | refine Z0a ?_ | refine Z08 ?_ | refine Z01 ?_ | refine Z04 rfl ?_)
 replace S : St w0 w [.var b10 30 [.slice XC C.length xC, .slice XS Sp.length xS, .slice XV V.length xV, .int .i64 acc0, .slice XP Po.length xP, .int .i64 cl0, .slice XW W.length xW, .slice XI I.length xI], Z16 Z14 70 (.slice AL l.length cL) l, Z16 Z1d 63 (.slice AP sp.length cP) sp, Z16 Z1j 60 (.slice AV vs.length cV) vs, Z16 fSh 22 (.slice (some ⟨k26, 0, none⟩) 2 2) [((AC, lc.length, cC) : SH), (AL, l.length, cL)], Z16 fSh 23 (.slice (some ⟨k27, 0, none⟩) 2 2) [((AS, ls.length, cS) : SH), (AP, sp.length, cP)], Z16 fSh 24 (.slice (some ⟨k28, 0, none⟩) 2 2) [((AW, lv.length, cW) : SH), (AV, vs.length, cV)]] := S
 refine Z2c (fun σ w1 => ∃ (accM clM : Int) (AM : Option Addr) (cM : Nat) (M : List GPosting) (k29 : Nat), Has σ [(7, .int .i64 from_), (8, .int .i64 day), (9, .int .i64 total), (10, .pointer (some ⟨b10, 0, none⟩)), (21, .bool true), (25, .int .i64 fr), (26, .slice (some ⟨k26, 0, none⟩) 2 2), (27, .slice (some ⟨k27, 0, none⟩) 2 2), (28, .slice (some ⟨k28, 0, none⟩) 2 2), (29, .slice (some ⟨k29, 0, none⟩) 2 2)] ∧ M.length ≤ 48 ∧ St w0 w1 [.var b10 30 [.slice XC C.length xC, .slice XS Sp.length xS, .slice XV V.length xV, .int .i64 acc0, .slice XP Po.length xP, .int .i64 cl0, .slice XW W.length xW, .slice XI I.length xI], Z16 Z14 70 (.slice AL l.length cL) l, Z16 Z1d 63 (.slice AP sp.length cP) sp, Z16 Z1j 60 (.slice AV vs.length cV) vs, Z16 fSh 22 (.slice (some ⟨k26, 0, none⟩) 2 2) [((AC, lc.length, cC) : SH), (AL, l.length, cL)], Z16 fSh 23 (.slice (some ⟨k27, 0, none⟩) 2 2) [((AS, ls.length, cS) : SH), (AP, sp.length, cP)], Z16 fSh 24 (.slice (some ⟨k28, 0, none⟩) 2 2) [((AW, lv.length, cW) : SH), (AV, vs.length, cV)], rowP (.slice AM M.length cM) M, Z16 fBk 27 (.slice (some ⟨k29, 0, none⟩) 2 2) [((acc0, (APo, lp.length, cPo), cl0) : BK), (accM, (AM, M.length, cM), clM)]]) ?_ ?_
 ·refine Z3r (fun w' => St w0 w' [.var b10 30 [.slice XC C.length xC, .slice XS Sp.length xS, .slice XV V.length xV, .int .i64 acc0, .slice XP Po.length xP, .int .i64 cl0, .slice XW W.length xW, .slice XI I.length xI]]) (.vals [0, 3, 6, 12, 16, 17, 1, 4, 7, 13, 2, 5, 8, 14, 9, 10, 11, 15] (.one 18 (.one 19 (.vals [20] .fin)))) (by kernel_rfl) (by decide) (by decide +kernel) (fun w' hb => (S.grow hb).keep [true]) ?_
  intro w' hb; replace S := S.grow hb; clear hb
  refine Z1y ?_
  repeat' (first | refine Z1z ?_ | (refine Z3i ?_; refine Z0p rfl (fun w' hJ => ⟨rfl⟩) ?_) | (refine Z2n ?_; refine Z0p rfl (fun w' hJ => ⟨rfl⟩) ?_) | (refine Zcs ?_; refine Z0p rfl (fun w' hJ => Z5i rfl rfl rfl) ?_) | (refine gj_c_min ?_; refine Z0p rfl (fun w' hJ => Z6l rfl rfl) ?_) | (refine Zcu ?_; refine Z0p rfl (fun w' hJ => Z0e rfl) ?_) | (refine Z30 ?_; refine Z0p rfl (fun w' hJ => Z09 rfl) ?_) | (refine Z5b ?_; refine Z0p rfl (fun w' hJ => Z0b (i := 0) hJ rfl rfl rfl) ?_) | refine Z0p rfl (fun w' hJ => Z5k eP (hrP.mono hJ.below) rfl rfl (by omega) (by omega)) ?_)
  refine Z2b ?_; refine Z3q rfl (Z0w rfl rfl rfl) (Zle hac (hr5.mono S.below) hu hul) ?_
  rintro _ w hb ⟨accM, clM, vM, M, rfl, hMl, S'⟩; obtain ⟨AM, cM, hzz⟩ := (S'.rdRow (D := Z0o) (i := 0) rfl).len; subst hzz; replace S := S.join S'; clear hb S'; refine ⟨S.keep [true], ?_⟩
  refine Z2b ?_; refine Z2i rfl (Z2z (D := fBk) [((acc0, (APo, lp.length, cPo), cl0) : BK), (accM, (AM, M.length, cM), clM)] (fun y => .agg (fBk.enc y).toArray) S rfl rfl (fun _ => rfl) rfl (by decide) (by decide)) ?_; rintro _ w ⟨k29, rfl, -, -, S'⟩; replace S := S'; clear S'; refine ⟨S.keep [true], ?_⟩
  refine Z1y ?_; refine Z0p rfl (fun w' hJ => ⟨rfl⟩) ?_; refine Z1z ?_; refine Z3t ?_; refine Z1x ?_; exact ⟨accM, clM, AM, cM, M, k29, ⟨rfl, rfl, rfl, rfl, rfl, rfl, rfl, rfl, rfl, rfl, trivial⟩, hMl, S⟩
 clear S
 rintro σ w1 ⟨accM, clM, AM, cM, M, k29, hs, hMl, S⟩
 refine Z1o hs ?_
 clear hs
 obtain ⟨dd, hdd⟩ : ∃ dd, Z26 day 360 = dd := ⟨_, rfl⟩
 obtain ⟨tt, htt⟩ : ∃ tt, Z26 total 1000000000001 = tt := ⟨_, rfl⟩
 repeat' (first | refine Z0a ?_ | refine Z02 ?_ | refine Z06 rfl ?_)
 refine Z0n rfl (Z2z (D := fInt .i64) [from_, fr] (Value.int .i64) S rfl rfl (fun _ => rfl) rfl (by decide) (by decide)) ?_
 rintro _ w ⟨k30, rfl, -, -, S'⟩; replace S := S'; clear S'
 repeat' (first | refine Z0a ?_ | refine Z02 ?_ | refine Z08 ?_ | refine Z01 ?_ | refine Z06 rfl ?_ | refine Z04 rfl ?_ | ((refine Z0j rfl (Z0w rfl rfl rfl) (Zl5 hdd hdI.1 hdI.2 (by omega)) ?_; intro w hb; replace S := S.grow hb; clear hb)))
 refine Z0n rfl (Z2z (D := fInt .i64) [day, dd] (Value.int .i64) S rfl rfl (fun _ => rfl) rfl (by decide) (by decide)) ?_
 rintro _ w ⟨k31, rfl, -, -, S'⟩; replace S := S'; clear S'
 replace S : St w0 w [.var b10 30 [.slice XC C.length xC, .slice XS Sp.length xS, .slice XV V.length xV, .int .i64 acc0, .slice XP Po.length xP, .int .i64 cl0, .slice XW W.length xW, .slice XI I.length xI], Z16 Z14 70 (.slice AL l.length cL) l, Z16 Z1d 63 (.slice AP sp.length cP) sp, Z16 Z1j 60 (.slice AV vs.length cV) vs, Z16 fSh 22 (.slice (some ⟨k26, 0, none⟩) 2 2) [((AC, lc.length, cC) : SH), (AL, l.length, cL)], Z16 fSh 23 (.slice (some ⟨k27, 0, none⟩) 2 2) [((AS, ls.length, cS) : SH), (AP, sp.length, cP)], Z16 fSh 24 (.slice (some ⟨k28, 0, none⟩) 2 2) [((AW, lv.length, cW) : SH), (AV, vs.length, cV)], rowP (.slice AM M.length cM) M, Z16 fBk 27 (.slice (some ⟨k29, 0, none⟩) 2 2) [((acc0, (APo, lp.length, cPo), cl0) : BK), (accM, (AM, M.length, cM), clM)], Z16 (fInt .i64) 3 (.slice (some ⟨k30, 0, none⟩) 2 2) [from_, fr], Z16 (fInt .i64) 3 (.slice (some ⟨k31, 0, none⟩) 2 2) [day, dd]] := S
 obtain ⟨P, hP⟩ : ∃ P, [.var b10 30 [.slice XC C.length xC, .slice XS Sp.length xS, .slice XV V.length xV, .int .i64 acc0, .slice XP Po.length xP, .int .i64 cl0, .slice XW W.length xW, .slice XI I.length xI], Z16 Z14 70 (.slice AL l.length cL) l, Z16 Z1d 63 (.slice AP sp.length cP) sp, Z16 Z1j 60 (.slice AV vs.length cV) vs, Z16 fSh 22 (.slice (some ⟨k26, 0, none⟩) 2 2) [((AC, lc.length, cC) : SH), (AL, l.length, cL)], Z16 fSh 23 (.slice (some ⟨k27, 0, none⟩) 2 2) [((AS, ls.length, cS) : SH), (AP, sp.length, cP)], Z16 fSh 24 (.slice (some ⟨k28, 0, none⟩) 2 2) [((AW, lv.length, cW) : SH), (AV, vs.length, cV)], rowP (.slice AM M.length cM) M, Z16 fBk 27 (.slice (some ⟨k29, 0, none⟩) 2 2) [((acc0, (APo, lp.length, cPo), cl0) : BK), (accM, (AM, M.length, cM), clM)], Z16 (fInt .i64) 3 (.slice (some ⟨k30, 0, none⟩) 2 2) [from_, fr], Z16 (fInt .i64) 3 (.slice (some ⟨k31, 0, none⟩) 2 2) [day, dd]] = P := ⟨_, rfl⟩
 have q26 : ∀ {w}, St w0 w P → Rd fSh.ty w (.slice (some ⟨k26, 0, none⟩) 2 2) [((AC, lc.length, cC) : SH), (AL, l.length, cL)] := fun {w} S => by subst hP; exact S.rdRow (D := fSh) (i := 4) rfl
 have q27 : ∀ {w}, St w0 w P → Rd fSh.ty w (.slice (some ⟨k27, 0, none⟩) 2 2) [((AS, ls.length, cS) : SH), (AP, sp.length, cP)] := fun {w} S => by subst hP; exact S.rdRow (D := fSh) (i := 5) rfl
 have q28 : ∀ {w}, St w0 w P → Rd fSh.ty w (.slice (some ⟨k28, 0, none⟩) 2 2) [((AW, lv.length, cW) : SH), (AV, vs.length, cV)] := fun {w} S => by subst hP; exact S.rdRow (D := fSh) (i := 6) rfl
 have q29 : ∀ {w}, St w0 w P → Rd fBk.ty w (.slice (some ⟨k29, 0, none⟩) 2 2) [((acc0, (APo, lp.length, cPo), cl0) : BK), (accM, (AM, M.length, cM), clM)] := fun {w} S => by subst hP; exact S.rdRow (D := fBk) (i := 8) rfl
 have q30 : ∀ {w}, St w0 w P → Rd (fInt .i64).ty w (.slice (some ⟨k30, 0, none⟩) 2 2) [from_, fr] := fun {w} S => by subst hP; exact S.rdRow (D := fInt .i64) (i := 9) rfl
 have q31 : ∀ {w}, St w0 w P → Rd (fInt .i64).ty w (.slice (some ⟨k31, 0, none⟩) 2 2) [day, dd] := fun {w} S => by subst hP; exact S.rdRow (D := fInt .i64) (i := 10) rfl
 have q10 : ∀ {w}, St w0 w P → Z32 w ⟨b10, 0, none⟩ [.slice XC C.length xC, .slice XS Sp.length xS, .slice XV V.length xV, .int .i64 acc0, .slice XP Po.length xP, .int .i64 cl0, .slice XW W.length xW, .slice XI I.length xI] := fun {w} S => by subst hP; exact S.var (i := 0) rfl
 have hsC : ∀ i : Int, 0 ≤ i → i < 2 → ∃ (A : Option Addr) (c : Nat) (li : List GContract), nth [((AC, lc.length, cC) : SH), (AL, l.length, cL)] i = ((A, li.length, c) : SH) ∧ li.length ≤ 13 ∧ ∀ {w}, St w0 w P → Rd Z14.ty w (.slice A li.length c) li := by
  intro i h0 h2
  rcases (by omega : i = 0 ∨ i = 1) with rfl | rfl
  ·exact ⟨AC, cC, lc, rfl, hlc, fun {w} S => hRC.mono S.below⟩
  ·exact ⟨AL, cL, l, rfl, by omega, fun {w} S => by subst hP; exact S.rdRow (D := Z14) (i := 1) rfl⟩
 have hsS : ∀ i : Int, 0 ≤ i → i < 2 → ∃ (A : Option Addr) (c : Nat) (li : List GSpot), nth [((AS, ls.length, cS) : SH), (AP, sp.length, cP)] i = ((A, li.length, c) : SH) ∧ li.length ≤ 61 ∧ ∀ {w}, St w0 w P → Rd Z1d.ty w (.slice A li.length c) li := by
  intro i h0 h2
  rcases (by omega : i = 0 ∨ i = 1) with rfl | rfl
  ·exact ⟨AS, cS, ls, rfl, hls, fun {w} S => hRS.mono S.below⟩
  ·exact ⟨AP, cP, sp, rfl, by omega, fun {w} S => by subst hP; exact S.rdRow (D := Z1d) (i := 2) rfl⟩
 have hsV : ∀ i : Int, 0 ≤ i → i < 2 → ∃ (A : Option Addr) (c : Nat) (li : List GVerdict), nth [((AW, lv.length, cW) : SH), (AV, vs.length, cV)] i = ((A, li.length, c) : SH) ∧ li.length ≤ 201 ∧ ∀ {w}, St w0 w P → Rd Z1j.ty w (.slice A li.length c) li := by
  intro i h0 h2
  rcases (by omega : i = 0 ∨ i = 1) with rfl | rfl
  ·exact ⟨AW, cW, lv, rfl, hlv, fun {w} S => hRV.mono S.below⟩
  ·exact ⟨AV, cV, vs, rfl, by omega, fun {w} S => by subst hP; exact S.rdRow (D := Z1j) (i := 3) rfl⟩
 have hsB : ∀ i : Int, 0 ≤ i → i < 2 → ∃ (a cl : Int) (A : Option Addr) (c : Nat) (li : List GPosting), nth [((acc0, (APo, lp.length, cPo), cl0) : BK), (accM, (AM, M.length, cM), clM)] i = ((a, (A, li.length, c), cl) : BK) ∧ li.length ≤ 201 ∧ ∀ {w}, St w0 w P → Rd Z0o.ty w (.slice A li.length c) li := by
  intro i h0 h2
  rcases (by omega : i = 0 ∨ i = 1) with rfl | rfl
  ·exact ⟨acc0, cl0, APo, cPo, lp, rfl, hlp, fun {w} S => hRP.mono S.below⟩
  ·exact ⟨accM, clM, AM, cM, M, rfl, by omega, fun {w} S => by subst hP; exact S.rdRow (D := Z0o) (i := 7) rfl⟩
 obtain ⟨ASp, cSp, lS1, hS1, hS1l, hS1R⟩ := hsS 1 (by omega) (by omega)
 obtain ⟨KC, hKC⟩ : ∃ KC, [((AC, lc.length, cC) : SH), (AL, l.length, cL)] = KC := ⟨_, rfl⟩
 obtain ⟨KS, hKS⟩ : ∃ KS, [((AS, ls.length, cS) : SH), (AP, sp.length, cP)] = KS := ⟨_, rfl⟩
 obtain ⟨KV, hKV⟩ : ∃ KV, [((AW, lv.length, cW) : SH), (AV, vs.length, cV)] = KV := ⟨_, rfl⟩
 obtain ⟨KB, hKB⟩ : ∃ KB, [((acc0, (APo, lp.length, cPo), cl0) : BK), (accM, (AM, M.length, cM), clM)] = KB := ⟨_, rfl⟩
 have nC : KC.length = 2 := by rw [← hKC]; rfl
 have nS : KS.length = 2 := by rw [← hKS]; rfl
 have nV : KV.length = 2 := by rw [← hKV]; rfl
 have nB : KB.length = 2 := by rw [← hKB]; rfl
 rw [hKC] at q26 hsC
 rw [hKS] at q27 hsS hS1
 rw [hKV] at q28 hsV
 rw [hKB] at q29 hsB
 rw [hP] at S
 clear hP hKC hKS hKV hKB hRC hRS hRV hRP
 repeat' (first | refine Z0a ?_ | refine Z02 ?_ | refine Z08 ?_ | refine Z01 ?_ | refine Z0f ?_ | refine Z04 rfl ?_)
 refine Z1l (fun m σ w1 => ∃ i : Int, Has σ [(9, .int .i64 total), (10, .pointer (some ⟨b10, 0, none⟩)), (21, .bool true), (26, .slice (some ⟨k26, 0, none⟩) 2 2), (27, .slice (some ⟨k27, 0, none⟩) 2 2), (28, .slice (some ⟨k28, 0, none⟩) 2 2), (29, .slice (some ⟨k29, 0, none⟩) 2 2), (30, .slice (some ⟨k30, 0, none⟩) 2 2), (31, .slice (some ⟨k31, 0, none⟩) 2 2), (32, .int .i64 i)] ∧ St w0 w1 P ∧ 0 ≤ i ∧ i ≤ 2 ∧ m = 2 - i.toNat) 2 ⟨0, ⟨rfl, rfl, rfl, rfl, rfl, rfl, rfl, rfl, rfl, rfl, trivial⟩, S, by omega, by omega, rfl⟩ ?_
 clear S
 rintro m σ w1 ⟨i, hs, S, hi0, hi1, hm⟩
 refine Z1o hs ?_
 clear hs
 by_cases hi : i < 2
 ·obtain ⟨Ai, ci, li, hCi, hCil, hCiR⟩ := hsC i hi0 hi
  obtain ⟨Aw, cw, wi, hWi, hWil, hWiR⟩ := hsV i hi0 hi
  repeat' (first | refine Z0a ?_ | refine Z02 ?_ | refine Z08 ?_ | refine Z01 ?_ | refine Z0k ?_ | refine Z0f ?_ | refine Z06 rfl ?_ | refine Z04 rfl ?_ | refine Z00 rfl (Z0z rfl rfl) ?_ | (refine Z0g rfl (fun h => ?_) (fun h => ?_) <;> (fail_if_success first | have := ntT h | have := ntF h) <;> (try simp only [tdyB] at h) <;> (try (exfalso; omega))))
  refine Z1l (fun m σ w1 => ∃ j : Int, Has σ [(9, .int .i64 total), (10, .pointer (some ⟨b10, 0, none⟩)), (21, .bool true), (26, .slice (some ⟨k26, 0, none⟩) 2 2), (27, .slice (some ⟨k27, 0, none⟩) 2 2), (28, .slice (some ⟨k28, 0, none⟩) 2 2), (29, .slice (some ⟨k29, 0, none⟩) 2 2), (30, .slice (some ⟨k30, 0, none⟩) 2 2), (31, .slice (some ⟨k31, 0, none⟩) 2 2), (32, .int .i64 i), (33, .int .i64 j)] ∧ St w0 w1 P ∧ 0 ≤ j ∧ j ≤ 2 ∧ m = 2 - j.toNat) 2 ⟨0, ⟨rfl, rfl, rfl, rfl, rfl, rfl, rfl, rfl, rfl, rfl, rfl, trivial⟩, S, by omega, by omega, rfl⟩ ?_
  clear S
  rintro m' σ w1 ⟨j, hs, S, hj0, hj1, hm'⟩
  refine Z1o hs ?_
  clear hs
  by_cases hj : j < 2
  ·obtain ⟨Sj, sj, spj, hSj, hSjl, hSjR⟩ := hsS j hj0 hj
   obtain ⟨Vj, vj, vsj, hVj, hVjl, hVjR⟩ := hsV j hj0 hj
   obtain ⟨aj, clj, Bj, bj, Lj, hBj, hBjl, hBjR⟩ := hsB j hj0 hj
   repeat' (first | refine Z0a ?_ | refine Z02 ?_ | refine Z08 ?_ | refine Z01 ?_ | refine Z0k ?_ | refine Z0f ?_ | refine Z06 rfl ?_ | refine Z00 rfl (Z0z rfl rfl) ?_ | (refine Z0g rfl (fun h => ?_) (fun h => ?_) <;> (fail_if_success first | have := ntT h | have := ntF h) <;> (try simp only [tdyB] at h) <;> (try (exfalso; omega))))
   obtain ⟨fj, hfj⟩ : ∃ fj, nth [from_, fr] j = fj := ⟨_, rfl⟩
   obtain ⟨dj, hdj⟩ : ∃ dj, nth [day, dd] j = dj := ⟨_, rfl⟩
   have hdln := delI_len li spj vsj fj
   have hduln := dueI_len li spj
   have hsoln := setO_len aj clj Lj li lS1 dj
   obtain ⟨rd, hrd⟩ : ∃ rd, delI li spj vsj fj = rd := ⟨_, rfl⟩
   obtain ⟨ru, hru⟩ : ∃ ru, dueI li spj = ru := ⟨_, rfl⟩
   obtain ⟨o, ho⟩ : ∃ o, setO aj clj Lj li lS1 dj = o := ⟨_, rfl⟩
   rw [hrd] at hdln
   rw [hru] at hduln
   rw [ho] at hsoln
   refine Z2c (fun σ w1 => ∃ (va : Value), Has σ [(9, .int .i64 total), (10, .pointer (some ⟨b10, 0, none⟩)), (21, .bool true), (26, .slice (some ⟨k26, 0, none⟩) 2 2), (27, .slice (some ⟨k27, 0, none⟩) 2 2), (28, .slice (some ⟨k28, 0, none⟩) 2 2), (29, .slice (some ⟨k29, 0, none⟩) 2 2), (30, .slice (some ⟨k30, 0, none⟩) 2 2), (31, .slice (some ⟨k31, 0, none⟩) 2 2), (32, .int .i64 i), (33, .int .i64 j), (34, va), (35, .int .i64 rd.2)] ∧ St w0 w1 (Z16 Z1d 63 va rd.1 :: P)) ?_ ?_
   ·refine Z3r (fun w' => St w0 w' P) (.vals [0, 1, 4, 5, 8, 9, 12, 13, 2, 6, 10, 14, 3, 7, 11, 15] (.one 16 (.vals [17, 18, 19, 20, 21] .fin))) (by kernel_rfl) (by decide) (by decide +kernel) (fun w' hb => (S.grow hb)) ?_
    intro w' hb; replace S := S.grow hb; clear hb
    refine Z1y ?_
    repeat' (first | refine Z1z ?_ | (refine Z3i ?_; refine Z0p rfl (fun w' hJ => ⟨rfl⟩) ?_) | (refine Z2n ?_; refine Z0p rfl (fun w' hJ => ⟨rfl⟩) ?_) | refine Z0p rfl (fun w' hJ => Z07 (q26 hJ) rfl rfl (by omega) (by rw [nC]; omega)) ?_ | refine Z0p (v := .slice Ai li.length ci) rfl (fun w' hJ => Z0i (D := fSh) (q26 hJ) rfl (hi0) (by rw [nC]; omega) (by rw [hCi]; rfl)) ?_ | refine Z0p rfl (fun w' hJ => Z07 (q27 hJ) rfl rfl (by omega) (by rw [nS]; omega)) ?_ | refine Z0p (v := .slice Sj spj.length sj) rfl (fun w' hJ => Z0i (D := fSh) (q27 hJ) rfl (hj0) (by rw [nS]; omega) (by rw [hSj]; rfl)) ?_ | refine Z0p rfl (fun w' hJ => Z07 (q28 hJ) rfl rfl (by omega) (by rw [nV]; omega)) ?_ | refine Z0p (v := .slice Vj vsj.length vj) rfl (fun w' hJ => Z0i (D := fSh) (q28 hJ) rfl (hj0) (by rw [nV]; omega) (by rw [hVj]; rfl)) ?_ | refine Z0p rfl (fun w' hJ => Z07 (q30 hJ) rfl rfl (by omega) (by show j < 2; omega)) ?_ | refine Z0p (v := .int .i64 fj) rfl (fun w' hJ => Z0i (D := fInt .i64) (q30 hJ) rfl (hj0) (by show j < 2; omega) (by rw [← hfj]; rfl)) ?_)
    refine Z2b ?_; refine Z3q rfl (Z3g rfl rfl rfl rfl rfl) (Zkg (hCiR S) (hSjR S) (hVjR S) (by omega) (by omega) (by omega)) ?_
    rintro _ w hb ⟨va, rfl, hrow⟩; rw [hrd] at hrow ⊢; replace S := (S.new hb hrow).front; clear hb hrow; refine ⟨S.tail, ?_⟩
    refine Z1y ?_; refine Z0p rfl (fun w' hJ => ⟨rfl⟩) ?_; refine Z0p rfl (fun w' hJ => Z0y rfl rfl) ?_; refine Z0p rfl (fun w' hJ => Z0y rfl rfl) ?_; refine Z0p rfl (fun w' hJ => ⟨rfl⟩) ?_; refine Z0p rfl (fun w' hJ => ⟨rfl⟩) ?_; refine Z1z ?_
    refine Z3t ?_; refine Z1x ?_
    exact ⟨va, ⟨rfl, rfl, rfl, rfl, rfl, rfl, rfl, rfl, rfl, rfl, rfl, rfl, rfl, trivial⟩, S⟩
   clear S
   rintro σ w1 ⟨va, hs, S⟩
   refine Z1o hs ?_
   clear hs
   refine Z0a ?_
   refine Z2c (fun σ w1 => ∃ (vb : Value), Has σ [(9, .int .i64 total), (10, .pointer (some ⟨b10, 0, none⟩)), (21, .bool true), (26, .slice (some ⟨k26, 0, none⟩) 2 2), (27, .slice (some ⟨k27, 0, none⟩) 2 2), (28, .slice (some ⟨k28, 0, none⟩) 2 2), (29, .slice (some ⟨k29, 0, none⟩) 2 2), (30, .slice (some ⟨k30, 0, none⟩) 2 2), (31, .slice (some ⟨k31, 0, none⟩) 2 2), (32, .int .i64 i), (33, .int .i64 j), (34, va), (35, .int .i64 rd.2), (36, vb), (37, .int .i64 rd.2)] ∧ St w0 w1 (Z16 Z1d 63 vb rd.1 :: Z16 Z1d 63 va rd.1 :: P)) ?_ ?_
   ·refine Z3r (fun w' => St w0 w' P) (.vals [0, 1, 4, 5, 8, 9, 12, 13, 2, 6, 10, 14, 3, 7, 11, 15] (.one 16 (.vals [17, 18, 19, 20, 21] .fin))) (by kernel_rfl) (by decide) (by decide +kernel) (fun w' hb => (S.grow hb).tail) ?_
    intro w' hb; replace S := S.grow hb; clear hb
    refine Z1y ?_
    repeat' (first | refine Z1z ?_ | (refine Z3i ?_; refine Z0p rfl (fun w' hJ => ⟨rfl⟩) ?_) | (refine Z2n ?_; refine Z0p rfl (fun w' hJ => ⟨rfl⟩) ?_) | refine Z0p rfl (fun w' hJ => Z07 (q26 hJ) rfl rfl (by omega) (by rw [nC]; omega)) ?_ | refine Z0p (v := .slice Ai li.length ci) rfl (fun w' hJ => Z0i (D := fSh) (q26 hJ) rfl (hi0) (by rw [nC]; omega) (by rw [hCi]; rfl)) ?_ | refine Z0p rfl (fun w' hJ => Z07 (q27 hJ) rfl rfl (by omega) (by rw [nS]; omega)) ?_ | refine Z0p (v := .slice Sj spj.length sj) rfl (fun w' hJ => Z0i (D := fSh) (q27 hJ) rfl (hj0) (by rw [nS]; omega) (by rw [hSj]; rfl)) ?_ | refine Z0p rfl (fun w' hJ => Z07 (q28 hJ) rfl rfl (by omega) (by rw [nV]; omega)) ?_ | refine Z0p (v := .slice Vj vsj.length vj) rfl (fun w' hJ => Z0i (D := fSh) (q28 hJ) rfl (hj0) (by rw [nV]; omega) (by rw [hVj]; rfl)) ?_ | refine Z0p rfl (fun w' hJ => Z07 (q30 hJ) rfl rfl (by omega) (by show j < 2; omega)) ?_ | refine Z0p (v := .int .i64 fj) rfl (fun w' hJ => Z0i (D := fInt .i64) (q30 hJ) rfl (hj0) (by show j < 2; omega) (by rw [← hfj]; rfl)) ?_)
    refine Z2b ?_; refine Z3q rfl (Z3g rfl rfl rfl rfl rfl) (delR_run (hCiR S.tail) (hSjR S.tail) (hVjR S.tail) (by omega) (by omega) (by omega)) ?_
    rintro _ w hb ⟨vb, rfl, hrow⟩; rw [hrd] at hrow ⊢; replace S := (S.new hb hrow).front; clear hb hrow; refine ⟨S.tail.tail, ?_⟩
    refine Z1y ?_; refine Z0p rfl (fun w' hJ => ⟨rfl⟩) ?_; refine Z0p rfl (fun w' hJ => Z0y rfl rfl) ?_; refine Z0p rfl (fun w' hJ => Z0y rfl rfl) ?_; refine Z0p rfl (fun w' hJ => ⟨rfl⟩) ?_; refine Z0p rfl (fun w' hJ => ⟨rfl⟩) ?_; refine Z1z ?_
    refine Z3t ?_; refine Z1x ?_
    exact ⟨vb, ⟨rfl, rfl, rfl, rfl, rfl, rfl, rfl, rfl, rfl, rfl, rfl, rfl, rfl, rfl, rfl, trivial⟩, S⟩
   clear S
   rintro σ w1 ⟨vb, hs, S⟩
   refine Z1o hs ?_
   clear hs
   refine Z0a ?_
   refine Z2c (fun σ w1 => ∃ (vc : Value), Has σ [(9, .int .i64 total), (10, .pointer (some ⟨b10, 0, none⟩)), (21, .bool true), (26, .slice (some ⟨k26, 0, none⟩) 2 2), (27, .slice (some ⟨k27, 0, none⟩) 2 2), (28, .slice (some ⟨k28, 0, none⟩) 2 2), (29, .slice (some ⟨k29, 0, none⟩) 2 2), (30, .slice (some ⟨k30, 0, none⟩) 2 2), (31, .slice (some ⟨k31, 0, none⟩) 2 2), (32, .int .i64 i), (33, .int .i64 j), (34, va), (35, .int .i64 rd.2), (36, vb), (37, .int .i64 rd.2), (38, vc), (39, .int .i64 ru.2)] ∧ St w0 w1 (Z16 (fInt .i64) 3 vc ru.1 :: Z16 Z1d 63 vb rd.1 :: Z16 Z1d 63 va rd.1 :: P)) ?_ ?_
   ·refine Z3r (fun w' => St w0 w' P) (.vals [0, 1, 4, 5, 2, 6, 3, 7] (.one 8 (.vals [9, 10, 11, 12, 13] .fin))) (by kernel_rfl) (by decide) (by decide +kernel) (fun w' hb => (S.grow hb).tail.tail) ?_
    intro w' hb; replace S := S.grow hb; clear hb
    refine Z1y ?_
    repeat' (first | refine Z1z ?_ | (refine Z3i ?_; refine Z0p rfl (fun w' hJ => ⟨rfl⟩) ?_) | (refine Z2n ?_; refine Z0p rfl (fun w' hJ => ⟨rfl⟩) ?_) | refine Z0p rfl (fun w' hJ => Z07 (q26 hJ) rfl rfl (by omega) (by rw [nC]; omega)) ?_ | refine Z0p (v := .slice Ai li.length ci) rfl (fun w' hJ => Z0i (D := fSh) (q26 hJ) rfl (hi0) (by rw [nC]; omega) (by rw [hCi]; rfl)) ?_ | refine Z0p rfl (fun w' hJ => Z07 (q27 hJ) rfl rfl (by omega) (by rw [nS]; omega)) ?_ | refine Z0p (v := .slice Sj spj.length sj) rfl (fun w' hJ => Z0i (D := fSh) (q27 hJ) rfl (hj0) (by rw [nS]; omega) (by rw [hSj]; rfl)) ?_)
    refine Z2b ?_; refine Z3q rfl (Z0w rfl rfl rfl) (Zkh (hCiR S.tail.tail) (hSjR S.tail.tail) (by omega) (by omega) (hG.mono S.below)) ?_
    rintro _ w hb ⟨vc, rfl, hrow⟩; rw [hru] at hrow ⊢; replace S := (S.new hb hrow).front; clear hb hrow; refine ⟨S.tail.tail.tail, ?_⟩
    refine Z1y ?_; refine Z0p rfl (fun w' hJ => ⟨rfl⟩) ?_; refine Z0p rfl (fun w' hJ => Z0y rfl rfl) ?_; refine Z0p rfl (fun w' hJ => Z0y rfl rfl) ?_; refine Z0p rfl (fun w' hJ => ⟨rfl⟩) ?_; refine Z0p rfl (fun w' hJ => ⟨rfl⟩) ?_; refine Z1z ?_
    refine Z3t ?_; refine Z1x ?_
    exact ⟨vc, ⟨rfl, rfl, rfl, rfl, rfl, rfl, rfl, rfl, rfl, rfl, rfl, rfl, rfl, rfl, rfl, rfl, rfl, trivial⟩, S⟩
   clear S
   rintro σ w1 ⟨vc, hs, S⟩
   refine Z1o hs ?_
   clear hs
   refine Z0a ?_
   refine Z2c (fun σ w1 => ∃ (vd : Value), Has σ [(9, .int .i64 total), (10, .pointer (some ⟨b10, 0, none⟩)), (21, .bool true), (26, .slice (some ⟨k26, 0, none⟩) 2 2), (27, .slice (some ⟨k27, 0, none⟩) 2 2), (28, .slice (some ⟨k28, 0, none⟩) 2 2), (29, .slice (some ⟨k29, 0, none⟩) 2 2), (30, .slice (some ⟨k30, 0, none⟩) 2 2), (31, .slice (some ⟨k31, 0, none⟩) 2 2), (32, .int .i64 i), (33, .int .i64 j), (34, va), (35, .int .i64 rd.2), (36, vb), (37, .int .i64 rd.2), (38, vc), (39, .int .i64 ru.2), (40, vd), (41, .int .i64 ru.2)] ∧ St w0 w1 (Z16 (fInt .i64) 3 vd ru.1 :: Z16 (fInt .i64) 3 vc ru.1 :: Z16 Z1d 63 vb rd.1 :: Z16 Z1d 63 va rd.1 :: P)) ?_ ?_
   ·refine Z3r (fun w' => St w0 w' P) (.vals [0, 1, 4, 5, 2, 6, 3, 7] (.one 8 (.vals [9, 10, 11, 12, 13] .fin))) (by kernel_rfl) (by decide) (by decide +kernel) (fun w' hb => (S.grow hb).tail.tail.tail) ?_
    intro w' hb; replace S := S.grow hb; clear hb
    refine Z1y ?_
    repeat' (first | refine Z1z ?_ | (refine Z3i ?_; refine Z0p rfl (fun w' hJ => ⟨rfl⟩) ?_) | (refine Z2n ?_; refine Z0p rfl (fun w' hJ => ⟨rfl⟩) ?_) | refine Z0p rfl (fun w' hJ => Z07 (q26 hJ) rfl rfl (by omega) (by rw [nC]; omega)) ?_ | refine Z0p (v := .slice Ai li.length ci) rfl (fun w' hJ => Z0i (D := fSh) (q26 hJ) rfl (hi0) (by rw [nC]; omega) (by rw [hCi]; rfl)) ?_ | refine Z0p rfl (fun w' hJ => Z07 (q27 hJ) rfl rfl (by omega) (by rw [nS]; omega)) ?_ | refine Z0p (v := .slice Sj spj.length sj) rfl (fun w' hJ => Z0i (D := fSh) (q27 hJ) rfl (hj0) (by rw [nS]; omega) (by rw [hSj]; rfl)) ?_)
    refine Z2b ?_; refine Z3q rfl (Z0w rfl rfl rfl) (Zhk (hCiR S.tail.tail.tail) (hSjR S.tail.tail.tail) (by omega) (by omega)) ?_
    rintro _ w hb ⟨vd, rfl, hrow⟩; rw [hru] at hrow ⊢; replace S := (S.new hb hrow).front; clear hb hrow; refine ⟨S.tail.tail.tail.tail, ?_⟩
    refine Z1y ?_; refine Z0p rfl (fun w' hJ => ⟨rfl⟩) ?_; refine Z0p rfl (fun w' hJ => Z0y rfl rfl) ?_; refine Z0p rfl (fun w' hJ => Z0y rfl rfl) ?_; refine Z0p rfl (fun w' hJ => ⟨rfl⟩) ?_; refine Z0p rfl (fun w' hJ => ⟨rfl⟩) ?_; refine Z1z ?_
    refine Z3t ?_; refine Z1x ?_
    exact ⟨vd, ⟨rfl, rfl, rfl, rfl, rfl, rfl, rfl, rfl, rfl, rfl, rfl, rfl, rfl, rfl, rfl, rfl, rfl, rfl, rfl, trivial⟩, S⟩
   clear S
   rintro σ w1 ⟨vd, hs, S⟩
   refine Z1o hs ?_
   clear hs

   repeat' (first | refine Z0a ?_ | refine Z02 ?_ | refine Z08 ?_ | refine Z01 ?_ | refine Z0k ?_ | refine Z18 rfl ?_ | refine Z06 rfl ?_ | refine Z0t rfl rfl ?_ | refine Z00 rfl (Z33 rfl rfl) ?_ | refine Z00 rfl (Z1w rfl) ?_ | (first | (refine Z0j rfl (Z0w rfl rfl rfl) (Zjw (b := true) (decide_eq_true rfl) (S.rdRow (D := Z1d) (i := 3) rfl) (S.rdRow (D := Z1d) (i := 2) rfl) (by omega) (by omega)) ?_; intro w hb; replace S := S.grow hb; clear hb) | (refine Z0j rfl (Z0w rfl rfl rfl) (Z82 (b := true) (decide_eq_true rfl) (S.rdRow (D := fInt .i64) (i := 1) rfl) (S.rdRow (D := fInt .i64) (i := 0) rfl) (by omega) (by omega)) ?_; intro w hb; replace S := S.grow hb; clear hb)) | (refine Z13 rfl rfl (fun h => ?_) (fun h => ?_) <;> (fail_if_success first | have := ntT h | have := ntF h) <;> (try simp only [tdyB] at h) <;> (try (exfalso; omega)) <;> (try (exfalso; first | exact absurd rfl h | exact absurd trivial h | omega; done))))
   replace S := S.tail.tail.tail.tail
   refine Z2c (fun σ w1 => ∃ (A42 : Option Addr) (c42 b42 : Nat), Has σ [(9, .int .i64 total), (10, .pointer (some ⟨b10, 0, none⟩)), (21, .bool true), (26, .slice (some ⟨k26, 0, none⟩) 2 2), (27, .slice (some ⟨k27, 0, none⟩) 2 2), (28, .slice (some ⟨k28, 0, none⟩) 2 2), (29, .slice (some ⟨k29, 0, none⟩) 2 2), (30, .slice (some ⟨k30, 0, none⟩) 2 2), (31, .slice (some ⟨k31, 0, none⟩) 2 2), (32, .int .i64 i), (33, .int .i64 j), (35, .int .i64 o.2), (42, .pointer (some ⟨b42, 0, none⟩))] ∧ St w0 w1 (.var b42 27 (bkV o.1.1 (.slice A42 o.1.2.2.length c42) o.1.2.1) :: rowP (.slice A42 o.1.2.2.length c42) o.1.2.2 :: P)) ?_ ?_
   ·refine Z3r (fun w' => St w0 w' P) (.vals [0, 1, 4, 5, 8, 11, 12, 2, 6, 9, 13, 3, 7, 10, 14] (.two 15 (.vals [16, 17, 18] (.one 19 (.one 20 (.vals [21] .fin)))) 19 (.one 15 (.vals [16, 17, 18] (.one 20 (.vals [21] .fin)))))) (by kernel_rfl) (by decide) (by decide +kernel) (fun w' hb => (S.grow hb)) ?_
    intro w' hb; replace S := S.grow hb; clear hb
    refine Z1y ?_
    repeat' (first | refine Z1z ?_ | (refine Z3i ?_; refine Z0p rfl (fun w' hJ => ⟨rfl⟩) ?_) | (refine Z2n ?_; refine Z0p rfl (fun w' hJ => ⟨rfl⟩) ?_) | refine Z0p rfl (fun w' hJ => Z07 (q29 hJ) rfl rfl (by omega) (by rw [nB]; omega)) ?_ | refine Z0p (v := .agg (bkV aj (.slice Bj Lj.length bj) clj).toArray) rfl (fun w' hJ => Zbq (D := fBk) (q29 hJ) rfl (by rw [hBj]; rfl) hj0 (by rw [nB]; omega)) ?_ | refine Z0p rfl (fun w' hJ => Z07 (q26 hJ) rfl rfl (by omega) (by rw [nC]; omega)) ?_ | refine Z0p (v := .slice Ai li.length ci) rfl (fun w' hJ => Z0i (D := fSh) (q26 hJ) rfl (hi0) (by rw [nC]; omega) (by rw [hCi]; rfl)) ?_ | refine Z0p rfl (fun w' hJ => Z07 (q27 hJ) rfl rfl (by omega) (by rw [nS]; omega)) ?_ | refine Z0p (v := .slice ASp lS1.length cSp) rfl (fun w' hJ => Z0i (D := fSh) (q27 hJ) rfl (by omega) (by rw [nS]; omega) (by rw [hS1]; rfl)) ?_ | refine Z0p rfl (fun w' hJ => Z07 (q31 hJ) rfl rfl (by omega) (by show j < 2; omega)) ?_ | refine Z0p (v := .int .i64 dj) rfl (fun w' hJ => Z0i (D := fInt .i64) (q31 hJ) rfl (hj0) (by show j < 2; omega) (by rw [← hdj]; rfl)) ?_)
    refine Zbm ?_ ?_
    ·refine Z2b ?_; refine Z3q rfl (Z3g rfl rfl rfl rfl rfl) (Z7e (hBjR S) (hCiR S) (hS1R S) (by omega) (by omega) (by omega) (hG.mono S.below)) ?_
     rintro _ w hb hR; obtain ⟨A42, c42, rfl, S'⟩ := Zdk hb hR; rw [ho] at S' ⊢; replace S := (S.join S').front; clear hb hR S'; refine ⟨S.tail, ?_⟩
     refine Z1y ?_; refine Z0p rfl (fun w' hJ => ⟨rfl⟩) ?_; refine Z0p rfl (fun w' hJ => Z0y rfl rfl) ?_; refine Z0p rfl (fun w' hJ => Z0y rfl rfl) ?_; refine Z1z ?_
     refine Z2b ?_; refine Z2i rfl (Z1i S) ?_; rintro _ w ⟨b42, rfl, -, S'⟩; replace S := S'.front; clear S'; refine ⟨S.tail.tail, ?_⟩
     refine Z2b ?_; refine Z3c rfl (Z03 (i := 0) S rfl rfl rfl rfl (dqq rfl) (dqq rfl)) ?_; clear S; intro w S; refine ⟨S.tail.tail, ?_⟩
     refine Z1y ?_; refine Z0p rfl (fun w' hJ => ⟨rfl⟩) ?_; refine Z1z ?_; refine Z3t ?_; refine Z1x ?_
     exact ⟨A42, c42, b42, ⟨rfl, rfl, rfl, rfl, rfl, rfl, rfl, rfl, rfl, rfl, rfl, rfl, rfl, trivial⟩, S⟩
    ·refine Z2b ?_; refine Z2i rfl (Z1i S) ?_; rintro _ w ⟨b42, rfl, -, S'⟩; replace S := S'.front; clear S'; refine ⟨S.tail, ?_⟩
     refine Z2b ?_; refine Z3q rfl (Z3g rfl rfl rfl rfl rfl) (Z7e (hBjR S.tail) (hCiR S.tail) (hS1R S.tail) (by omega) (by omega) (by omega) (hG.mono S.below)) ?_
     rintro _ w hb hR; obtain ⟨A42, c42, rfl, S'⟩ := Zdk hb hR; rw [ho] at S' ⊢; replace S := (S.join S').front; clear hb hR S'; refine ⟨S.tail.tail, ?_⟩
     refine Z1y ?_; refine Z0p rfl (fun w' hJ => ⟨rfl⟩) ?_; refine Z0p rfl (fun w' hJ => Z0y rfl rfl) ?_; refine Z0p rfl (fun w' hJ => Z0y rfl rfl) ?_; refine Z1z ?_
     refine Z2b ?_; refine Z3c rfl (Z03 (i := 1) S rfl rfl rfl rfl (dqq rfl) (dqq rfl)) ?_; clear S; intro w S; refine ⟨S.tail.tail, ?_⟩
     refine Z1y ?_; refine Z0p rfl (fun w' hJ => ⟨rfl⟩) ?_; refine Z1z ?_; refine Z3t ?_; refine Z1x ?_
     exact ⟨A42, c42, b42, ⟨rfl, rfl, rfl, rfl, rfl, rfl, rfl, rfl, rfl, rfl, rfl, rfl, rfl, trivial⟩, S.perm (List.Perm.swap _ _ _)⟩
   clear S
   rintro σ w1 ⟨A42, c42, b42, hs, S⟩
   refine Z1o hs ?_
   clear hs
   refine Z0a ?_
   refine Z2c (fun σ w1 => ∃ (A43 : Option Addr) (c43 b43 : Nat), Has σ [(9, .int .i64 total), (10, .pointer (some ⟨b10, 0, none⟩)), (21, .bool true), (26, .slice (some ⟨k26, 0, none⟩) 2 2), (27, .slice (some ⟨k27, 0, none⟩) 2 2), (28, .slice (some ⟨k28, 0, none⟩) 2 2), (29, .slice (some ⟨k29, 0, none⟩) 2 2), (30, .slice (some ⟨k30, 0, none⟩) 2 2), (31, .slice (some ⟨k31, 0, none⟩) 2 2), (32, .int .i64 i), (33, .int .i64 j), (35, .int .i64 o.2), (42, .pointer (some ⟨b42, 0, none⟩)), (37, .int .i64 o.2), (43, .pointer (some ⟨b43, 0, none⟩))] ∧ St w0 w1 (.var b43 27 (bkV o.1.1 (.slice A43 o.1.2.2.length c43) o.1.2.1) :: rowP (.slice A43 o.1.2.2.length c43) o.1.2.2 :: .var b42 27 (bkV o.1.1 (.slice A42 o.1.2.2.length c42) o.1.2.1) :: rowP (.slice A42 o.1.2.2.length c42) o.1.2.2 :: P)) ?_ ?_
   ·refine Z3r (fun w' => St w0 w' P) (.vals [0, 1, 4, 5, 8, 11, 12, 2, 6, 9, 13, 3, 7, 10, 14] (.two 15 (.vals [16, 17, 18] (.one 19 (.one 20 (.vals [21] .fin)))) 19 (.one 15 (.vals [16, 17, 18] (.one 20 (.vals [21] .fin)))))) (by kernel_rfl) (by decide) (by decide +kernel) (fun w' hb => (S.grow hb).tail.tail) ?_
    intro w' hb; replace S := S.grow hb; clear hb
    refine Z1y ?_
    repeat' (first | refine Z1z ?_ | (refine Z3i ?_; refine Z0p rfl (fun w' hJ => ⟨rfl⟩) ?_) | (refine Z2n ?_; refine Z0p rfl (fun w' hJ => ⟨rfl⟩) ?_) | refine Z0p rfl (fun w' hJ => Z07 (q29 hJ) rfl rfl (by omega) (by rw [nB]; omega)) ?_ | refine Z0p (v := .agg (bkV aj (.slice Bj Lj.length bj) clj).toArray) rfl (fun w' hJ => Zbq (D := fBk) (q29 hJ) rfl (by rw [hBj]; rfl) hj0 (by rw [nB]; omega)) ?_ | refine Z0p rfl (fun w' hJ => Z07 (q26 hJ) rfl rfl (by omega) (by rw [nC]; omega)) ?_ | refine Z0p (v := .slice Ai li.length ci) rfl (fun w' hJ => Z0i (D := fSh) (q26 hJ) rfl (hi0) (by rw [nC]; omega) (by rw [hCi]; rfl)) ?_ | refine Z0p rfl (fun w' hJ => Z07 (q27 hJ) rfl rfl (by omega) (by rw [nS]; omega)) ?_ | refine Z0p (v := .slice ASp lS1.length cSp) rfl (fun w' hJ => Z0i (D := fSh) (q27 hJ) rfl (by omega) (by rw [nS]; omega) (by rw [hS1]; rfl)) ?_ | refine Z0p rfl (fun w' hJ => Z07 (q31 hJ) rfl rfl (by omega) (by show j < 2; omega)) ?_ | refine Z0p (v := .int .i64 dj) rfl (fun w' hJ => Z0i (D := fInt .i64) (q31 hJ) rfl (hj0) (by show j < 2; omega) (by rw [← hdj]; rfl)) ?_)
    refine Zbm ?_ ?_
    ·refine Z2b ?_; refine Z3q rfl (Z3g rfl rfl rfl rfl rfl) (Zbo (hBjR S.tail.tail) (hCiR S.tail.tail) (hS1R S.tail.tail) (by omega) (by omega) (by omega)) ?_
     rintro _ w hb hR; obtain ⟨A43, c43, rfl, S'⟩ := Zdk hb hR; rw [ho] at S' ⊢; replace S := (S.join S').front; clear hb hR S'; refine ⟨S.tail.tail.tail, ?_⟩
     refine Z1y ?_; refine Z0p rfl (fun w' hJ => ⟨rfl⟩) ?_; refine Z0p rfl (fun w' hJ => Z0y rfl rfl) ?_; refine Z0p rfl (fun w' hJ => Z0y rfl rfl) ?_; refine Z1z ?_
     refine Z2b ?_; refine Z2i rfl (Z1i S) ?_; rintro _ w ⟨b43, rfl, -, S'⟩; replace S := S'.front; clear S'; refine ⟨S.tail.tail.tail.tail, ?_⟩
     refine Z2b ?_; refine Z3c rfl (Z03 (i := 0) S rfl rfl rfl rfl (dqq rfl) (dqq rfl)) ?_; clear S; intro w S; refine ⟨S.tail.tail.tail.tail, ?_⟩
     refine Z1y ?_; refine Z0p rfl (fun w' hJ => ⟨rfl⟩) ?_; refine Z1z ?_; refine Z3t ?_; refine Z1x ?_
     exact ⟨A43, c43, b43, ⟨rfl, rfl, rfl, rfl, rfl, rfl, rfl, rfl, rfl, rfl, rfl, rfl, rfl, rfl, rfl, trivial⟩, S⟩
    ·refine Z2b ?_; refine Z2i rfl (Z1i S) ?_; rintro _ w ⟨b43, rfl, -, S'⟩; replace S := S'.front; clear S'; refine ⟨S.tail.tail.tail, ?_⟩
     refine Z2b ?_; refine Z3q rfl (Z3g rfl rfl rfl rfl rfl) (Zbo (hBjR S.tail.tail.tail) (hCiR S.tail.tail.tail) (hS1R S.tail.tail.tail) (by omega) (by omega) (by omega)) ?_
     rintro _ w hb hR; obtain ⟨A43, c43, rfl, S'⟩ := Zdk hb hR; rw [ho] at S' ⊢; replace S := (S.join S').front; clear hb hR S'; refine ⟨S.tail.tail.tail.tail, ?_⟩
     refine Z1y ?_; refine Z0p rfl (fun w' hJ => ⟨rfl⟩) ?_; refine Z0p rfl (fun w' hJ => Z0y rfl rfl) ?_; refine Z0p rfl (fun w' hJ => Z0y rfl rfl) ?_; refine Z1z ?_
     refine Z2b ?_; refine Z3c rfl (Z03 (i := 1) S rfl rfl rfl rfl (dqq rfl) (dqq rfl)) ?_; clear S; intro w S; refine ⟨S.tail.tail.tail.tail, ?_⟩
     refine Z1y ?_; refine Z0p rfl (fun w' hJ => ⟨rfl⟩) ?_; refine Z1z ?_; refine Z3t ?_; refine Z1x ?_
     exact ⟨A43, c43, b43, ⟨rfl, rfl, rfl, rfl, rfl, rfl, rfl, rfl, rfl, rfl, rfl, rfl, rfl, rfl, rfl, trivial⟩, S.perm (List.Perm.swap _ _ _)⟩
   clear S
   rintro σ w1 ⟨A43, c43, b43, hs, S⟩
   refine Z1o hs ?_
   clear hs
   have hr42 := S.rdRow (D := Z0o) (i := 3) rfl
   have hr43 := S.rdRow (D := Z0o) (i := 1) rfl
   repeat' (first | refine Z0a ?_ | refine Z02 ?_ | refine Z08 ?_ | refine Z01 ?_ | refine Z0h ?_ | refine Z0k ?_ | refine Z18 rfl ?_ | refine Z06 rfl ?_ | refine Z04 rfl ?_ | refine Z0t rfl rfl ?_ | ((refine Z00 rfl (Z12 rfl rfl ?_ ?_) ?_; (first | omega | simp <;> omega); (first | omega | simp <;> omega))) | refine Z00 rfl (Z33 rfl rfl) ?_ | refine Z00 rfl (Z1w rfl) ?_ | (first | refine Z00 rfl (Z0m (i := 0) S rfl rfl rfl rfl) ?_ | refine Z00 rfl (Z0m (i := 2) S rfl rfl rfl rfl) ?_) | ((refine Z0j rfl (Z0w rfl rfl rfl) (Zig (acc := o.1.1) (cl := o.1.2.1) (L := o.1.2.2) (S.rdRow (D := Z0o) (i := 3) rfl) (S.rdRow (D := Z0o) (i := 1) rfl) (by omega)) ?_; intro w hb; replace S := S.grow hb; clear hb)) | (refine Z13 rfl rfl (fun h => ?_) (fun h => ?_) <;> (fail_if_success first | have := ntT h | have := ntF h) <;> (try simp only [tdyB] at h) <;> (try (exfalso; omega)) <;> (try (exfalso; first | exact absurd rfl h | exact absurd trivial h | omega; done))))
   refine ⟨⟨_, ?_, j + 1, ⟨rfl, rfl, rfl, rfl, rfl, rfl, rfl, rfl, rfl, rfl, rfl, trivial⟩, S.tail.tail.tail.tail, by omega, by omega, rfl⟩⟩
   omega
  ·clear hm'
   repeat' (first | refine Z0a ?_ | refine Z02 ?_ | refine Z08 ?_ | refine Z01 ?_ | refine Z0s ?_ | refine Z15 ?_ | refine Z1b ?_ | refine Z06 rfl ?_ | refine Z00 rfl (Z0z rfl rfl) ?_ | (refine Z0g rfl (fun h => ?_) (fun h => ?_) <;> (fail_if_success first | have := ntT h | have := ntF h) <;> (try simp only [tdyB] at h) <;> (try (exfalso; omega))))
   refine Z2c (fun σ w1 => Has σ [(9, .int .i64 total), (10, .pointer (some ⟨b10, 0, none⟩)), (21, .bool true), (26, .slice (some ⟨k26, 0, none⟩) 2 2), (27, .slice (some ⟨k27, 0, none⟩) 2 2), (28, .slice (some ⟨k28, 0, none⟩) 2 2), (29, .slice (some ⟨k29, 0, none⟩) 2 2), (30, .slice (some ⟨k30, 0, none⟩) 2 2), (31, .slice (some ⟨k31, 0, none⟩) 2 2), (32, .int .i64 i), (274, .bool (!decide (Z3m wi = Z3m wi)))] ∧ St w0 w1 P) ?_ ?_
   ·refine Z3r (fun w' => St w0 w' P) (.vals [0, 1, 5, 6, 2, 7, 3, 8] (.one 4 (.one 9 (.vals [10] .fin)))) (by kernel_rfl) (by decide) (by decide +kernel) (fun w' hb => S.grow hb) ?_
    intro w' hb; replace S := S.grow hb; clear hb
    refine Z1y ?_
    repeat' (first | refine Z1z ?_ | (refine Z3i ?_; refine Z0p rfl (fun w' hJ => ⟨rfl⟩) ?_) | (refine Z2n ?_; refine Z0p rfl (fun w' hJ => ⟨rfl⟩) ?_) | refine Z0p rfl (fun w' hJ => Z07 (q28 hJ) rfl rfl (by omega) (by rw [nV]; omega)) ?_ | refine Z0p (v := .slice Aw wi.length cw) rfl (fun w' hJ => Z0i (D := fSh) (q28 hJ) rfl (hi0) (by rw [nV]; omega) (by rw [hWi]; rfl)) ?_)
    refine Z2b ?_; refine Z8l rfl (Z1h rfl rfl) (Zb8 (hWiR S) (by omega)) ?_; intro w hb; replace S := S.grow hb; clear hb; refine ⟨S, ?_⟩
    refine Z2b ?_; refine Z8l rfl (Z1h rfl rfl) (Z6w (hWiR S) (by omega)) ?_; intro w hb; replace S := S.grow hb; clear hb; refine ⟨S, ?_⟩
    refine Z1y ?_; refine Z0p rfl (fun w' hJ => r_neqB rfl rfl) ?_; refine Z1z ?_
    refine Z3t ?_; refine Z1x ?_
    exact ⟨⟨rfl, rfl, rfl, rfl, rfl, rfl, rfl, rfl, rfl, rfl, rfl, trivial⟩, S⟩
   clear S
   rintro σ w1 ⟨hs, S⟩
   refine Z1o hs ?_
   clear hs
   rw [show (!decide (Z3m wi = Z3m wi)) = false by simp]
   obtain ⟨tj, htj⟩ : ∃ tj, nth [total, tt] i = tj := ⟨_, rfl⟩
   have hsln := Zlf tj lx
   have hryn := royI_len tj it wi
   obtain ⟨rs, hrs⟩ : ∃ rs, shI tj lx = rs := ⟨_, rfl⟩
   obtain ⟨ry, hry⟩ : ∃ ry, royI tj it wi = ry := ⟨_, rfl⟩
   rw [hrs] at hsln
   rw [hry] at hryn
   repeat' (first | refine Z0a ?_ | refine Z02 ?_ | refine Z08 ?_ | refine Z01 ?_ | refine Z0k ?_ | refine Z18 rfl ?_ | refine Z06 rfl ?_ | refine Z04 rfl ?_ | refine Z00 rfl (Z6l rfl rfl) ?_ | refine Z00 rfl (Z0e rfl) ?_ | refine Z00 rfl (Z09 rfl) ?_ | ((refine Z0j rfl (Z0w rfl rfl rfl) (Zl5 htt htI.1 htI.2 (by omega)) ?_; intro w hb; replace S := S.grow hb; clear hb)) | refine Z00 rfl (Z40 (q10 S) rfl rfl) ?_ | refine Z00 rfl (Z5k eX (hrW.mono S.below) rfl rfl (by omega) (by omega)) ?_ | refine Z00 rfl (Z5k eI (hrI.mono S.below) rfl rfl (by omega) (by omega)) ?_)
   refine Z0n rfl (Z2z (D := fInt .i64) [total, tt] (Value.int .i64) S rfl rfl (fun _ => rfl) rfl (by decide) (by decide)) ?_
   rintro _ w ⟨k46, rfl, -, -, S'⟩; replace S := S'.front; clear S'
   repeat' (first | refine Z0a ?_ | refine Z02 ?_ | refine Z08 ?_ | refine Z01 ?_ | refine Z06 rfl ?_ | refine Z04 rfl ?_ | refine Z00 rfl (Z07 (S.rdRow (D := fInt .i64) (i := 0) rfl) rfl rfl (by omega) (by show i < 2; omega)) ?_ | refine Z00 (v := .int .i64 tj) rfl (Z0i (D := fInt .i64) (S.rdRow (D := fInt .i64) (i := 0) rfl) rfl (by omega) (by show i < 2; omega) (by rw [← htj]; rfl)) ?_)
   replace S := S.tail
   refine Z25 rfl (Z0w rfl rfl rfl) (Z93 (hRX.mono S.below) (by omega)) ?_
   rintro _ w hb ⟨ve, rfl, hrow⟩; rw [hrs] at hrow ⊢; replace S := (S.new hb hrow).front; clear hb hrow
   repeat' (first | refine Z0a ?_ | refine Z02 ?_ | refine Z08 ?_ | refine Z01 ?_ | refine Z06 rfl ?_ | refine Z04 rfl ?_ | refine Z00 rfl (Z0y rfl rfl) ?_)
   refine Z25 rfl (Z0w rfl rfl rfl) (Zbp (hRX.mono S.below) (by omega)) ?_
   rintro _ w hb ⟨vf, rfl, hrow⟩; rw [hrs] at hrow ⊢; replace S := (S.new hb hrow).front; clear hb hrow
   repeat' (first | refine Z0a ?_ | refine Z02 ?_ | refine Z08 ?_ | refine Z01 ?_ | refine Z06 rfl ?_ | refine Z04 rfl ?_ | refine Z00 rfl (Z0y rfl rfl) ?_ | refine Z00 rfl (Z07 (q28 S.tail.tail) rfl rfl (by omega) (by rw [nV]; omega)) ?_ | refine Z00 (v := .slice Aw wi.length cw) rfl (Z0i (D := fSh) (q28 S.tail.tail) rfl (by omega) (by rw [nV]; omega) (by rw [hWi]; rfl)) ?_)
   refine Z25 rfl (Z1t rfl rfl rfl rfl) (Zk7 (hRI.mono S.below) (hWiR S.tail.tail) (by omega) (by omega)) ?_
   rintro _ w hb ⟨vg, rfl, hrow⟩; rw [hry] at hrow ⊢; replace S := (S.new hb hrow).front; clear hb hrow
   repeat' (first | refine Z0a ?_ | refine Z02 ?_ | refine Z08 ?_ | refine Z01 ?_ | refine Z06 rfl ?_ | refine Z04 rfl ?_ | refine Z00 rfl (Z0y rfl rfl) ?_ | refine Z00 rfl (Z07 (q28 S.tail.tail.tail) rfl rfl (by omega) (by rw [nV]; omega)) ?_ | refine Z00 (v := .slice Aw wi.length cw) rfl (Z0i (D := fSh) (q28 S.tail.tail.tail) rfl (by omega) (by rw [nV]; omega) (by rw [hWi]; rfl)) ?_)
   refine Z25 rfl (Z1t rfl rfl rfl rfl) (royR_run (hRI.mono S.below) (hWiR S.tail.tail.tail) (by omega) (by omega)) ?_
   rintro _ w hb ⟨vh, rfl, hrow⟩; rw [hry] at hrow ⊢; replace S := (S.new hb hrow).front; clear hb hrow
   repeat' (first | refine Z0a ?_ | refine Z02 ?_ | refine Z08 ?_ | refine Z01 ?_ | refine Z0h ?_ | refine Z0k ?_ | refine Z18 rfl ?_ | refine Z06 rfl ?_ | refine Z04 rfl ?_ | refine Z0t rfl rfl ?_ | ((refine Z00 rfl (Z12 rfl rfl ?_ ?_) ?_; (first | omega | simp <;> omega); (first | omega | simp <;> omega))) | refine Z00 rfl (Z33 rfl rfl) ?_ | refine Z00 rfl (Z1w rfl) ?_ | refine Z00 rfl (Z0y rfl rfl) ?_ | (first | (refine Z0j rfl (Z0w rfl rfl rfl) (Z82 (b := true) (decide_eq_true rfl) (S.rdRow (D := fInt .i64) (i := 3) rfl) (S.rdRow (D := fInt .i64) (i := 2) rfl) (by omega) (by omega)) ?_; intro w hb; replace S := S.grow hb; clear hb) | (refine Z0j rfl (Z0w rfl rfl rfl) (Z82 (b := true) (decide_eq_true rfl) (S.rdRow (D := fInt .i64) (i := 1) rfl) (S.rdRow (D := fInt .i64) (i := 0) rfl) (by omega) (by omega)) ?_; intro w hb; replace S := S.grow hb; clear hb)) | (refine Z13 rfl rfl (fun h => ?_) (fun h => ?_) <;> (fail_if_success first | have := ntT h | have := ntF h) <;> (try simp only [tdyB] at h) <;> (try (exfalso; omega)) <;> (try (exfalso; first | exact absurd rfl h | exact absurd trivial h | omega; done))))
   refine ⟨⟨_, ?_, i + 1, ⟨rfl, rfl, rfl, rfl, rfl, rfl, rfl, rfl, rfl, rfl, trivial⟩, S.tail.tail.tail.tail, by omega, by omega, rfl⟩⟩
   omega
 ·repeat' (first | refine Z0a ?_ | refine Z02 ?_ | refine Z08 ?_ | refine Z01 ?_ | refine Z0s ?_ | refine Z15 ?_ | refine Z0r ?_ | refine Z1b ?_ | refine Z06 rfl ?_ | refine Z04 rfl ?_ | refine Z00 rfl (Z0z rfl rfl) ?_ | (refine Z0g rfl (fun h => ?_) (fun h => ?_) <;> (fail_if_success first | have := ntT h | have := ntF h) <;> (try simp only [tdyB] at h) <;> (try (exfalso; omega))))
  exact end1 rfl rfl ⟨rfl, S.below⟩
end Go.Proofs.YtijnbpnficcpmaaDoor
