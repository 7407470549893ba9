/- Merged texts: PA, PB, PC, DA, DB, DC, DD, DE, DF, DG, DH, DN, DI, DJ, DK. -/
import Derived.Test.YtgdmaadikcnagaaDoorMF
import Derived.Test.YtgdmaadikcnagaaDoorMC1
import Derived.Test.YtgdmaadikcnagaaDoorMG2
import Derived.Shelf.SlicesG.Cmp
import Derived.Shelf.SlSortCmp.NoneTotal
import Derived.Test.YtgdmaadikcnagaaDoorChecked
import Derived.Shelf.SlIterI.Sorted
import Derived.Shelf.SortM.Plain
import Derived.Shelf.SortM.SortNone
namespace Go.Proofs.YtgdmaadikcnagaaDoor
open Go Go.Gx Go.RowKit
set_option linter.unusedVariables false
set_option linter.unusedSimpArgs false

/-- What one opening serves of the debts that are left, in the order of their dues. -/
def serve (t : Int) : Int → List GDebt → List GServing × List GDebt × Bool
  | _, [] => ([], [], false)
  | m, d :: r =>
    if m ≤ 0 then ([], d :: r, false)
    else if d.Due ≤ t then ((serve t m r).1, (serve t m r).2.1, true)
    else if m < d.Count then ([⟨d.ID, t, m⟩], { d with Count := d.Count - m } :: r, false)
    else (⟨d.ID, t, d.Count⟩ :: (serve t (m - d.Count) r).1, (serve t (m - d.Count) r).2)
def serveO (now : Int) (o : GOpening) (l : List GDebt) : List GServing × List GDebt × Bool := if now ≤ o.At then serve o.At o.Count l else ([], l, false)
def planF (now : Int) : List GOpening → List GDebt → List GServing × List GDebt × Bool
  | [], l => ([], l, false)
  | o :: os, l => ((serveO now o l).1 ++ (planF now os (serveO now o l).2.1).1, (planF now os (serveO now o l).2.1).2.1, (serveO now o l).2.2 || (planF now os (serveO now o l).2.1).2.2)
/-- What is due behind D. -/
def cnt (D : Int) : List GDebt → Int
  | [] => 0
  | d :: r => (if D < d.Due then d.Count else 0) + cnt D r
def cntA : List GDebt → Int
  | [] => 0
  | d :: r => d.Count + cntA r
/-- The room from now up to D. -/
def roomW (now D : Int) : List GOpening → Int
  | [] => 0
  | o :: r => (if now ≤ o.At ∧ o.At < D then o.Count else 0) + roomW now D r
def tot : List GServing → Int
  | [] => 0
  | s :: r => s.Count + tot r
def PosD (l : List GDebt) : Prop := ∀ d ∈ l, 1 ≤ d.Count
def SrtD (l : List GDebt) : Prop := (l.map (·.Due)).Pairwise (· ≤ ·)
def SrtO (l : List GOpening) : Prop := l.Pairwise (fun a b => a.At < b.At)
def PosO (l : List GOpening) : Prop := ∀ o ∈ l, 1 ≤ o.Count
theorem tot_append : ∀ a b : List GServing, tot (a ++ b) = tot a + tot b
  | [], b => by simp [tot]
  | x :: a, b => by simp [tot, tot_append a b]; omega
theorem cnt_le (D : Int) : ∀ {l : List GDebt}, PosD l → cnt D l ≤ cntA l
  | [], _ => Int.le_refl _
  | d :: r, h => by
    have h1 := h d (List.mem_cons_self ..)
    have := cnt_le D (l := r) fun x hx => h x (List.mem_cons_of_mem _ hx)
    simp only [cnt, cntA]; split <;> omega
theorem cnt_all (D : Int) : ∀ {l : List GDebt}, (∀ d ∈ l, D < d.Due) → cnt D l = cntA l
  | [], _ => rfl
  | d :: r, h => by
    have := cnt_all D (l := r) fun x hx => h x (List.mem_cons_of_mem _ hx)
    simp only [cnt, cntA]; rw [if_pos (h d (List.mem_cons_self ..)), this]
theorem roomW_nonneg (now D : Int) : ∀ {l : List GOpening}, PosO l → 0 ≤ roomW now D l
  | [], _ => Int.le_refl _
  | o :: r, h => by
    have h1 := h o (List.mem_cons_self ..)
    have := roomW_nonneg now D (l := r) fun x hx => h x (List.mem_cons_of_mem _ hx)
    simp only [roomW]; split <;> omega
theorem roomW_zero (now D : Int) : ∀ {l : List GOpening}, (∀ o ∈ l, D ≤ o.At) → roomW now D l = 0
  | [], _ => rfl
  | o :: r, h => by
    have h1 := h o (List.mem_cons_self ..)
    have := roomW_zero now D (l := r) fun x hx => h x (List.mem_cons_of_mem _ hx)
    simp only [roomW]; rw [if_neg (by omega), this]; rfl
theorem SrtD.tail {d : GDebt} {r : List GDebt} (h : SrtD (d :: r)) : SrtD r := (List.pairwise_cons.1 h).2
theorem SrtD.head {d : GDebt} {r : List GDebt} (h : SrtD (d :: r)) : ∀ x ∈ r, d.Due ≤ x.Due := fun x hx => (List.pairwise_cons.1 h).1 _ (List.mem_map_of_mem hx)
end Go.Proofs.YtgdmaadikcnagaaDoor
namespace Go.Proofs.YtgdmaadikcnagaaDoor
open Go Go.Gx Go.RowKit
set_option linter.unusedVariables false
set_option linter.unusedSimpArgs false

/-- One place less. -/
def upd1 (f : Int → Int) (k n : Int) : Int → Int := fun x => if x = k then f x - n else f x
/-- A serving that can be. -/
def okSv (now : Int) (due left room : Int → Int) (s : GServing) : Bool := decide (1 ≤ s.Count ∧ now ≤ s.At ∧ s.At < due s.Debt ∧ s.Count ≤ left s.Debt ∧ s.Count ≤ room s.At)
def goodB (now : Int) (due : Int → Int) : (Int → Int) → (Int → Int) → List GServing → Bool
  | _, _, [] => true
  | left, room, s :: r => okSv now due left room s && goodB now due (upd1 left s.Debt s.Count) (upd1 room s.At s.Count) r
def wsum (p : Int → Prop) [DecidablePred p] (f : Int → Int) : List Int → Int
  | [] => 0
  | k :: r => (if p k then f k else 0) + wsum p f r
theorem wsum_out {p : Int → Prop} [DecidablePred p] {f : Int → Int} {k n : Int} : ∀ {ks : List Int}, k ∉ ks → wsum p (upd1 f k n) ks = wsum p f ks
  | [], _ => rfl
  | a :: r, h => by
    have h1 : a ≠ k := fun e => h (e ▸ List.mem_cons_self ..)
    have := wsum_out (p := p) (f := f) (n := n) (ks := r) (k := k) fun hx => h (List.mem_cons_of_mem _ hx)
    simp only [wsum, this]; unfold upd1; rw [if_neg h1]
theorem wsum_upd {p : Int → Prop} [DecidablePred p] {f : Int → Int} {k n : Int} : ∀ {ks : List Int}, ks.Nodup → k ∈ ks → wsum p (upd1 f k n) ks = wsum p f ks - (if p k then n else 0)
  | [], _, h => by cases h
  | a :: r, hn, h => by
    obtain ⟨n1, n2⟩ := List.nodup_cons.1 hn
    by_cases e : a = k
    · subst e
      have := wsum_out (p := p) (f := f) (n := n) (ks := r) n1
      simp only [wsum, this]
      have e1 : upd1 f a n a = f a - n := by unfold upd1; rw [if_pos rfl]
      rw [e1]; split <;> omega
    · have hk : k ∈ r := by
        rcases List.mem_cons.1 h with h | h
        · exact absurd h.symm e
        · exact h
      have := wsum_upd (p := p) (f := f) (n := n) n2 hk
      simp only [wsum, this]
      have e1 : upd1 f k n a = f a := by unfold upd1; rw [if_neg e]
      rw [e1]; omega
theorem wsum_nonneg {p : Int → Prop} [DecidablePred p] {f : Int → Int} : ∀ {ks : List Int}, (∀ k ∈ ks, 0 ≤ f k) → 0 ≤ wsum p f ks
  | [], _ => Int.le_refl _
  | a :: r, h => by
    have h1 := h a (List.mem_cons_self ..)
    have := wsum_nonneg (p := p) (f := f) (ks := r) fun x hx => h x (List.mem_cons_of_mem _ hx)
    simp only [wsum]; split <;> omega
/-- Numbers at distinct places, none elsewhere. -/
structure AccS (f : Int → Int) (ks : List Int) : Prop where
  nd : ks.Nodup
  pos : ∀ k ∈ ks, 0 ≤ f k
  out : ∀ k, 1 ≤ f k → k ∈ ks
theorem AccS.upd {f : Int → Int} {ks : List Int} {k n : Int} (h : AccS f ks) (h1 : 1 ≤ n) (h2 : n ≤ f k) : AccS (upd1 f k n) ks where
  nd := h.nd
  pos a ha := by unfold upd1; split
                 · rename_i e; subst e; omega
                 · exact h.pos a ha
  out a ha := by
    unfold upd1 at ha; split at ha
    · exact h.out a (by omega)
    · exact h.out a ha
theorem good_bound {now D : Int} {due : Int → Int} {ids ats : List Int} : ∀ (l : List GServing) (left room : Int → Int), AccS left ids → AccS room ats → goodB now due left room l = true → tot l ≤ wsum (fun k => now ≤ k ∧ k < D) room ats + wsum (fun k => D < due k) left ids
  | [], left, room, h1, h2, _ => by
    have e1 := wsum_nonneg (p := fun k => now ≤ k ∧ k < D) h2.pos
    have e2 := wsum_nonneg (p := fun k => D < due k) h1.pos
    simp only [tot]; omega
  | s :: r, left, room, h1, h2, hg => by
    simp only [goodB, okSv, Bool.and_eq_true, decide_eq_true_eq] at hg
    obtain ⟨⟨g1, g2, g3, g4, g5⟩, hg⟩ := hg
    have ih := good_bound (D := D) r _ _ (h1.upd g1 g4) (h2.upd g1 g5) hg
    have e1 := wsum_upd (p := fun k => now ≤ k ∧ k < D) (f := room) (n := s.Count) h2.nd (h2.out s.At (by omega))
    have e2 := wsum_upd (p := fun k => D < due k) (f := left) (n := s.Count) h1.nd (h1.out s.Debt (by omega))
    rw [e1, e2] at ih
    simp only [tot]
    by_cases hD : D < due s.Debt
    · rw [if_pos hD] at ih
      split at ih <;> omega
    · rw [if_neg hD, if_pos ⟨g2, by omega⟩] at ih
      omega
/-- The count of the debt of a number. -/
def cnF : List GDebt → Int → Int
  | [], _ => 0
  | d :: r, k => if d.ID = k then d.Count else cnF r k
def duF : List GDebt → Int → Int
  | [], _ => 0
  | d :: r, k => if d.ID = k then d.Due else duF r k
def rmF : List GOpening → Int → Int
  | [], _ => 0
  | o :: r, k => if o.At = k then o.Count else rmF r k
abbrev idsD (l : List GDebt) : List Int := l.map (·.ID)
abbrev atsO (l : List GOpening) : List Int := l.map (·.At)
theorem cnF_out : ∀ {l : List GDebt} {k : Int}, k ∉ idsD l → cnF l k = 0
  | [], _, _ => rfl
  | d :: r, k, h => by
    simp only [idsD, List.map_cons, List.mem_cons, not_or] at h
    unfold cnF; rw [if_neg (fun e => h.1 e.symm)]; exact cnF_out h.2
theorem rmF_out : ∀ {l : List GOpening} {k : Int}, k ∉ atsO l → rmF l k = 0
  | [], _, _ => rfl
  | d :: r, k, h => by
    simp only [atsO, List.map_cons, List.mem_cons, not_or] at h
    unfold rmF; rw [if_neg (fun e => h.1 e.symm)]; exact rmF_out h.2
theorem cnF_in : ∀ {l : List GDebt} {d : GDebt}, (idsD l).Nodup → d ∈ l → cnF l d.ID = d.Count ∧ duF l d.ID = d.Due
  | [], _, _, h => by cases h
  | a :: r, d, hn, h => by
    obtain ⟨n1, n2⟩ := List.nodup_cons.1 hn
    unfold cnF duF
    rcases List.mem_cons.1 h with rfl | h
    · rw [if_pos rfl, if_pos rfl]; exact ⟨rfl, rfl⟩
    · have : a.ID ≠ d.ID := fun e => n1 (List.mem_map.2 ⟨d, h, e.symm⟩)
      rw [if_neg this, if_neg this]; exact cnF_in n2 h
theorem rmF_in : ∀ {l : List GOpening} {d : GOpening}, (atsO l).Nodup → d ∈ l → rmF l d.At = d.Count
  | [], _, _, h => by cases h
  | a :: r, d, hn, h => by
    obtain ⟨n1, n2⟩ := List.nodup_cons.1 hn
    unfold rmF
    rcases List.mem_cons.1 h with rfl | h
    · rw [if_pos rfl]
    · have : a.At ≠ d.At := fun e => n1 (List.mem_map.2 ⟨d, h, e.symm⟩)
      rw [if_neg this]; exact rmF_in n2 h
theorem accD {l : List GDebt} (hn : (idsD l).Nodup) (hp : PosD l) : AccS (cnF l) (idsD l) where
  nd := hn
  pos k hk := by
    obtain ⟨d, hd, rfl⟩ := List.mem_map.1 hk
    rw [(cnF_in hn hd).1]; have := hp d hd; omega
  out k hk := by
    by_cases h : k ∈ idsD l
    · exact h
    · rw [cnF_out h] at hk; omega
theorem accO {l : List GOpening} (hn : (atsO l).Nodup) (hp : PosO l) : AccS (rmF l) (atsO l) where
  nd := hn
  pos k hk := by
    obtain ⟨d, hd, rfl⟩ := List.mem_map.1 hk
    rw [rmF_in hn hd]; have := hp d hd; omega
  out k hk := by
    by_cases h : k ∈ atsO l
    · exact h
    · rw [rmF_out h] at hk; omega
theorem wsum_congr {p q : Int → Prop} [DecidablePred p] [DecidablePred q] {f g : Int → Int} : ∀ {ks : List Int}, (∀ k ∈ ks, (p k ↔ q k) ∧ f k = g k) → wsum p f ks = wsum q g ks
  | [], _ => rfl
  | a :: r, h => by
    have h1 := h a (List.mem_cons_self ..)
    have := wsum_congr (p := p) (q := q) (f := f) (g := g) (ks := r) fun x hx => h x (List.mem_cons_of_mem _ hx)
    simp only [wsum, this, h1.2]
    by_cases e : q a
    · rw [if_pos e, if_pos (h1.1.2 e)]
    · rw [if_neg e, if_neg (fun x => e (h1.1.1 x))]
theorem wsum_cnt {D : Int} : ∀ {l : List GDebt}, (idsD l).Nodup → wsum (fun k => D < duF l k) (cnF l) (idsD l) = cnt D l
  | [], _ => rfl
  | d :: r, hn => by
    obtain ⟨n1, n2⟩ := List.nodup_cons.1 hn
    have ih := wsum_cnt (D := D) n2
    have e : wsum (fun k => D < duF (d :: r) k) (cnF (d :: r)) (idsD r) = wsum (fun k => D < duF r k) (cnF r) (idsD r) := wsum_congr fun k hk => by
      have : d.ID ≠ k := fun e => n1 (by show d.ID ∈ _; rw [e]; exact hk)
      simp only [duF, cnF]; rw [if_neg this, if_neg this]; exact ⟨Iff.rfl, rfl⟩
    have e1 : duF (d :: r) d.ID = d.Due := by unfold duF; rw [if_pos rfl]
    have e2 : cnF (d :: r) d.ID = d.Count := by unfold cnF; rw [if_pos rfl]
    show (if D < duF (d :: r) d.ID then cnF (d :: r) d.ID else 0) + wsum (fun k => D < duF (d :: r) k) (cnF (d :: r)) (idsD r) = _
    rw [e, ih, e1, e2]; rfl
theorem wsum_room {now D : Int} : ∀ {l : List GOpening}, (atsO l).Nodup → wsum (fun k => now ≤ k ∧ k < D) (rmF l) (atsO l) = roomW now D l
  | [], _ => rfl
  | d :: r, hn => by
    obtain ⟨n1, n2⟩ := List.nodup_cons.1 hn
    have ih := wsum_room (now := now) (D := D) n2
    have e : wsum (fun k => now ≤ k ∧ k < D) (rmF (d :: r)) (atsO r) = wsum (fun k => now ≤ k ∧ k < D) (rmF r) (atsO r) := wsum_congr fun k hk => by
      have : d.At ≠ k := fun e => n1 (by show d.At ∈ _; rw [e]; exact hk)
      refine ⟨Iff.rfl, ?_⟩
      simp only [rmF]; rw [if_neg this]
    have e2 : rmF (d :: r) d.At = d.Count := by unfold rmF; rw [if_pos rfl]
    show (if now ≤ d.At ∧ d.At < D then rmF (d :: r) d.At else 0) + wsum (fun k => now ≤ k ∧ k < D) (rmF (d :: r)) (atsO r) = _
    rw [e, ih, e2]; rfl
/-- No good servings have more than the room up to a deadline and what is due behind it. -/
theorem goodI_bound {now : Int} {ds : List GDebt} {os : List GOpening} {l : List GServing} (hn : (idsD ds).Nodup) (hp : PosD ds) (ho : (atsO os).Nodup) (hq : PosO os) (hg : goodB now (duF ds) (cnF ds) (rmF os) l = true) (D : Int) : tot l ≤ roomW now D os + cnt D ds := by
  have := good_bound (D := D) l _ _ (accD hn hp) (accO ho hq) hg
  rw [wsum_cnt hn, wsum_room ho] at this; exact this
def HasL (due left : Int → Int) (l : List GDebt) : Prop := ∀ x ∈ l, x.Count ≤ left x.ID ∧ due x.ID = x.Due
theorem HasL.tail {due left : Int → Int} {d : GDebt} {r : List GDebt} (h : HasL due left (d :: r)) : HasL due left r := fun x hx => h x (List.mem_cons_of_mem _ hx)
theorem HasL.upd {due left : Int → Int} {d : GDebt} {r : List GDebt} {n : Int} (h : HasL due left r) (hn : d.ID ∉ idsD r) : HasL due (upd1 left d.ID n) r := fun x hx => by
  have : x.ID ≠ d.ID := fun e => hn (List.mem_map.2 ⟨x, hx, e⟩)
  unfold upd1; rw [if_neg this]; exact h x hx
theorem cnt_perm {D : Int} {l l' : List GDebt} (h : l.Perm l') : cnt D l = cnt D l' := by
  induction h with
  | nil => rfl
  | cons x _ ih => simp only [cnt, ih]
  | swap x y l => simp only [cnt]; omega
  | trans _ _ a b => exact a.trans b
theorem cntA_perm {l l' : List GDebt} (h : l.Perm l') : cntA l = cntA l' := by
  induction h with
  | nil => rfl
  | cons x _ ih => simp only [cntA, ih]
  | swap x y l => simp only [cntA]; omega
  | trans _ _ a b => exact a.trans b
theorem roomW_mono {now D E : Int} (h : D ≤ E) : ∀ {l : List GOpening}, PosO l → roomW now D l ≤ roomW now E l
  | [], _ => Int.le_refl _
  | o :: r, hp => by
    have h1 := hp o (List.mem_cons_self ..)
    have := roomW_mono (now := now) h (l := r) fun x hx => hp x (List.mem_cons_of_mem _ hx)
    simp only [roomW]
    by_cases c1 : now ≤ o.At ∧ o.At < D
    · rw [if_pos c1, if_pos ⟨c1.1, by omega⟩]; omega
    · rw [if_neg c1]; split <;> omega
/-- What must be served up to a deadline, and has no room. -/
def lackP (now : Int) (ds : List GDebt) (os : List GOpening) (D : Int) : Int := cntA ds - cnt D ds - roomW now D os
/-- What Lack says. -/
def IsLack (now : Int) (ds : List GDebt) (os : List GOpening) (n : Int) (b : Bool) : Prop :=
  (b = true ∧ (∃ d ∈ ds, d.Due = n) ∧ 0 < lackP now ds os n ∧ ∀ d ∈ ds, d.Due < n → lackP now ds os d.Due ≤ 0) ∨ (b = false ∧ n = 0 ∧ ∀ d ∈ ds, lackP now ds os d.Due ≤ 0)
theorem IsLack.uniq {now : Int} {ds : List GDebt} {os : List GOpening} {n m : Int} {b c : Bool} (h1 : IsLack now ds os n b) (h2 : IsLack now ds os m c) : n = m ∧ b = c := by
  rcases h1 with ⟨rfl, ⟨d, hd, hd'⟩, p, q⟩ | ⟨rfl, rfl, q⟩ <;> rcases h2 with ⟨rfl, ⟨e, he, he'⟩, p', q'⟩ | ⟨rfl, rfl, q'⟩
  · refine ⟨?_, rfl⟩
    rcases Int.lt_trichotomy n m with h | h | h
    · have := q' d hd (by omega); rw [hd'] at this; omega
    · exact h
    · have := q e he (by omega); rw [he'] at this; omega
  · have := q' d hd; rw [hd'] at this; omega
  · have := q e he; rw [he'] at this; omega
  · exact ⟨rfl, rfl⟩
theorem dues_below {D : Int} : ∀ {l : List GDebt}, PosD l → 0 < cntA l - cnt D l → ∃ d ∈ l, d.Due ≤ D ∧ ∀ x ∈ l, x.Due ≤ D → x.Due ≤ d.Due
  | [], _, h => by simp [cntA, cnt] at h
  | a :: r, hp, h => by
    have hr : PosD r := fun x hx => hp x (List.mem_cons_of_mem _ hx)
    by_cases c : 0 < cntA r - cnt D r
    · obtain ⟨d, hd, h1, h2⟩ := dues_below hr c
      by_cases k : a.Due ≤ D ∧ d.Due < a.Due
      · refine ⟨a, List.mem_cons_self .., k.1, fun x hx hxD => ?_⟩
        rcases List.mem_cons.1 hx with rfl | hx
        · exact Int.le_refl _
        · have := h2 x hx hxD; omega
      · refine ⟨d, List.mem_cons_of_mem _ hd, h1, fun x hx hxD => ?_⟩
        rcases List.mem_cons.1 hx with rfl | hx
        · omega
        · exact h2 x hx hxD
    · have hle := cnt_le D hr
      simp only [cntA, cnt] at h
      have hD : ¬ D < a.Due := fun hD => by rw [if_pos hD] at h; omega
      refine ⟨a, List.mem_cons_self .., by omega, fun x hx hxD => ?_⟩
      rcases List.mem_cons.1 hx with rfl | hx
      · exact Int.le_refl _
      · exfalso
        have aux : ∀ {l : List GDebt}, PosD l → x ∈ l → 0 < cntA l - cnt D l := fun {l} => by
          induction l with
          | nil => intro _ h; cases h
          | cons b l ih =>
            intro hp hx
            have hb := hp b (List.mem_cons_self ..)
            have hpl : PosD l := fun x hx => hp x (List.mem_cons_of_mem _ hx)
            have := cnt_le D hpl
            simp only [cntA, cnt]
            rcases List.mem_cons.1 hx with rfl | hx
            · rw [if_neg (by omega)]; omega
            · have := ih hpl hx; split <;> omega
        exact c (aux hr hx)
theorem cnt_same {D E : Int} : ∀ {l : List GDebt}, (∀ x ∈ l, D < x.Due ↔ E < x.Due) → cnt D l = cnt E l
  | [], _ => rfl
  | a :: r, h => by
    have := cnt_same (l := r) fun x hx => h x (List.mem_cons_of_mem _ hx)
    have h1 := h a (List.mem_cons_self ..)
    simp only [cnt, this]
    by_cases c : D < a.Due
    · rw [if_pos c, if_pos (h1.1 c)]
    · rw [if_neg c, if_neg (fun e => c (h1.2 e))]
/-- The plain law of plans: what is planned, and what lacks. -/
structure PlanOk (now : Int) (ds : List GDebt) (os : List GOpening) (l : List GServing) : Prop where
  good : goodB now (duF ds) (cnF ds) (rmF os) l = true
  most : ∃ D, tot l = roomW now D os + cnt D ds
structure InsOk (ds : List GDebt) (os : List GOpening) : Prop where
  pos : PosD ds
  ids : (idsD ds).Nodup
  posO : PosO os
  srtO : SrtO os
theorem SrtO.nodup {os : List GOpening} (h : SrtO os) : (atsO os).Nodup := by
  refine List.pairwise_map.2 (List.Pairwise.imp (fun {a b} h => ?_) h)
  intro e; omega
theorem PlanOk.bound {now : Int} {ds : List GDebt} {os : List GOpening} {l : List GServing} (h : InsOk ds os) (hg : goodB now (duF ds) (cnF ds) (rmF os) l = true) (D : Int) : tot l ≤ roomW now D os + cnt D ds :=
  goodI_bound h.ids h.pos h.srtO.nodup h.posO hg D
theorem good_le {now : Int} {ds : List GDebt} {os : List GOpening} {l : List GServing} (h : InsOk ds os) (hg : goodB now (duF ds) (cnF ds) (rmF os) l = true) : tot l ≤ cntA ds := by
  have : ∀ ds : List GDebt, ∃ D, ∀ x ∈ ds, D < x.Due := fun ds => by
    induction ds with
    | nil => exact ⟨0, fun x hx => by cases hx⟩
    | cons a r ih =>
      obtain ⟨D, h⟩ := ih
      refine ⟨min D (a.Due - 1), fun x hx => ?_⟩
      rcases List.mem_cons.1 hx with rfl | hx
      · omega
      · have := h x hx; omega
  have this2 : ∀ os : List GOpening, ∃ D, ∀ x ∈ os, D ≤ x.At := fun os => by
    induction os with
    | nil => exact ⟨0, fun x hx => by cases hx⟩
    | cons a r ih =>
      obtain ⟨D, h⟩ := ih
      refine ⟨min D a.At, fun x hx => ?_⟩
      rcases List.mem_cons.1 hx with rfl | hx
      · omega
      · have := h x hx; omega
  obtain ⟨D, hD⟩ := this ds
  obtain ⟨E, hE⟩ := this2 os
  have h1 := PlanOk.bound h hg (min D E)
  rw [roomW_zero now _ (fun x hx => by have := hE x hx; omega), cnt_all _ (fun x hx => by have := hD x hx; omega)] at h1
  omega
/-- All is served just where nothing lacks. -/
theorem PlanOk.all {now : Int} {ds : List GDebt} {os : List GOpening} {l : List GServing} (h : InsOk ds os) (hk : PlanOk now ds os l) : tot l = cntA ds ↔ ∀ d ∈ ds, lackP now ds os d.Due ≤ 0 := by
  constructor
  · intro e d _
    have := PlanOk.bound h hk.good d.Due
    unfold lackP; omega
  · intro hl
    have hle := good_le h hk.good
    obtain ⟨D, hD⟩ := hk.most
    by_cases c : 0 < cntA ds - cnt D ds
    · obtain ⟨d, hd, h1, h2⟩ := dues_below h.pos c
      have e : cnt D ds = cnt d.Due ds := cnt_same fun x hx => ⟨fun q => by omega, fun q => by
        by_cases k : x.Due ≤ D
        · have := h2 x hx k; omega
        · omega⟩
      have h3 := roomW_mono (now := now) h1 h.posO
      have h4 := hl d hd
      unfold lackP at h4
      omega
    · have := roomW_nonneg now D h.posO
      omega
end Go.Proofs.YtgdmaadikcnagaaDoor
namespace Go.Proofs.YtgdmaadikcnagaaDoor
open Go Go.Gx Go.RowKit
set_option linter.unusedVariables false
set_option linter.unusedSimpArgs false

/-- The books: the debts that are open, in the order of their numbers; the numbers that were used; the sums. -/
structure Bk where
  op : List GDebt
  used : Int → Bool
  sums : GSums
def bk0 : Bk := ⟨[], fun _ => false, ⟨0, 0, 0, 0, 0⟩⟩
def betw (n a b : Int) : Bool := decide (a ≤ n ∧ n ≤ b)
theorem betw_iff {n a b : Int} : betw n a b = true ↔ a ≤ n ∧ n ≤ b := by simp [betw]
def getD (k : Int) : List GDebt → Option GDebt
  | [] => none
  | a :: r => if a.ID = k then some a else getD k r
def putD (d : GDebt) : List GDebt → List GDebt
  | [] => [d]
  | a :: r => if d.ID < a.ID then d :: a :: r else a :: putD d r
def lessD (k n : Int) : List GDebt → List GDebt
  | [] => []
  | a :: r => if a.ID = k then (if a.Count - n = 0 then r else { a with Count := a.Count - n } :: r) else a :: lessD k n r
def setU (f : Int → Bool) (k : Int) : Int → Bool := fun x => if x = k then true else f x
def freshB (b : Bk) (id : Int) : Bool := betw id 0 199 && !b.used id
def oweB (b : Bk) (x : GDeed) : Bk := ⟨putD ⟨x.ID, x.Contract, x.Count, x.Due⟩ b.op, setU b.used x.ID, { b.sums with Owed := b.sums.Owed + x.Count }⟩
def serveB (b : Bk) (x : GDeed) : Bk := ⟨lessD x.ID x.Count b.op, b.used, { b.sums with Served := b.sums.Served + x.Count }⟩
def moveB (b : Bk) (x : GDeed) (due : Int) : Bk := ⟨putD ⟨x.To, x.Contract, x.Count, due⟩ (lessD x.ID x.Count b.op), setU b.used x.To, { b.sums with Moved := b.sums.Moved + x.Count }⟩
def payB (b : Bk) (x : GDeed) : Bk := ⟨lessD x.ID x.Count b.op, b.used, { b.sums with Paid := b.sums.Paid + x.Count }⟩
def hasB (b : Bk) (x : GDeed) : Bool := match getD x.ID b.op with
  | none => false
  | some d => decide (x.Count ≤ d.Count) && decide (x.Due = 0)
def aliveB (b : Bk) (x : GDeed) : Bool := match getD x.ID b.op with
  | none => false
  | some d => decide (x.At < d.Due)
def otherB (b : Bk) (x : GDeed) : Bool := match getD x.ID b.op with
  | none => false
  | some d => !decide (x.Contract = d.Contract)
def dueB (b : Bk) (x : GDeed) : Int := match getD x.ID b.op with
  | none => 0
  | some d => d.Due
def inBO (x : GDeed) : Bool := betw x.Count 1 50 && betw x.At 0 9999999 && betw x.ID 0 199
def canOwe (b : Bk) (x : GDeed) : Bool := decide (x.To = 0) && betw x.Contract 0 99 && freshB b x.ID && betw x.Due (x.At + 1) 10000000
def canServe (b : Bk) (x : GDeed) : Bool := decide (x.To = 0) && decide (x.Contract = 0) && hasB b x && aliveB b x
def canMove (b : Bk) (x : GDeed) : Bool := hasB b x && aliveB b x && freshB b x.To && betw x.Contract 0 99 && otherB b x
def canPay (b : Bk) (x : GDeed) : Bool := decide (x.To = 0) && decide (x.Contract = 0) && hasB b x
/-- A deed done; none where it cannot be. -/
def doB (b : Bk) (x : GDeed) : Option Bk :=
  if inBO x = false then none
  else if x.Kind = 1 then (if canOwe b x = true then some (oweB b x) else none)
  else if x.Kind = 2 then (if canServe b x = true then some (serveB b x) else none)
  else if x.Kind = 3 then (if canMove b x = true then some (moveB b x (dueB b x)) else none)
  else if x.Kind = 4 then (if canPay b x = true then some (payB b x) else none)
  else none
def stepB (s : Bk × Int) (x : GDeed) : Option (Bk × Int) := if s.2 ≤ x.At then (doB s.1 x).map fun b => (b, x.At) else none
/-- The first deed that cannot be. -/
def badAt : Bk × Int → List GDeed → Option Nat
  | _, [] => none
  | s, x :: r => match stepB s x with
    | none => some 0
    | some s' => (badAt s' r).map (· + 1)
/-- The books behind the deeds that can be. -/
def bookOf : Bk × Int → List GDeed → Bk × Int
  | s, [] => s
  | s, x :: r => match stepB s x with
    | none => s
    | some s' => bookOf s' r
def openS (b : Bk) : GSums := { b.sums with Open := b.sums.Open + cntA b.op }
def s0B : Bk × Int := (bk0, 0)
def foldI (l : List GDeed) : List GDebt × GSums × Int × Int :=
  match badAt s0B (l.take 60) with
  | some i => ([], ⟨0, 0, 0, 0, 0⟩, i, 140)
  | none => if 60 < l.length then ([], ⟨0, 0, 0, 0, 0⟩, 60, 140) else ((bookOf s0B l).1.op, openS (bookOf s0B l).1, l.length, 0)
theorem badAt_append : ∀ (s : Bk × Int) (l r : List GDeed), badAt s l = none → badAt s (l ++ r) = (badAt (bookOf s l) r).map (· + l.length)
  | s, [], r, _ => by simp [bookOf]
  | s, x :: l, r, h => by
    unfold badAt at h
    simp only [List.cons_append]
    rw [badAt]
    cases e : stepB s x with
    | none => rw [e] at h; cases h
    | some s' =>
      rw [e] at h
      have h' : badAt s' l = none := by simpa using h
      simp only [bookOf, e]
      rw [badAt_append s' l r h']
      cases badAt (bookOf s' l) r <;> simp; omega
theorem bookOf_append : ∀ (s : Bk × Int) (l r : List GDeed), badAt s l = none → bookOf s (l ++ r) = bookOf (bookOf s l) r
  | s, [], r, _ => rfl
  | s, x :: l, r, h => by
    unfold badAt at h
    simp only [List.cons_append, bookOf]
    cases e : stepB s x with
    | none => rw [e] at h; cases h
    | some s' =>
      rw [e] at h
      exact bookOf_append s' l r (by simpa using h)
def SrtI (l : List GDebt) : Prop := l.Pairwise (fun a b => a.ID < b.ID)
theorem getD_mem : ∀ {l : List GDebt} {k : Int} {d : GDebt}, getD k l = some d → d ∈ l ∧ d.ID = k
  | [], _, _, h => by cases h
  | a :: r, k, d, h => by
    unfold getD at h; split at h
    · cases h; exact ⟨List.mem_cons_self .., by assumption⟩
    · have := getD_mem h; exact ⟨List.mem_cons_of_mem _ this.1, this.2⟩
theorem getD_none : ∀ {l : List GDebt} {k : Int}, getD k l = none → ∀ d ∈ l, d.ID ≠ k
  | [], _, _, _, h => by cases h
  | a :: r, k, h, d, hd => by
    unfold getD at h; split at h
    · cases h
    · rcases List.mem_cons.1 hd with rfl | hd
      · assumption
      · exact getD_none h d hd
theorem putD_mem {d : GDebt} : ∀ {l : List GDebt} {x : GDebt}, x ∈ putD d l ↔ x = d ∨ x ∈ l
  | [], x => by simp [putD]
  | a :: r, x => by
    unfold putD; split
    · simp
    · simp only [List.mem_cons, putD_mem (l := r)]
      constructor
      · rintro (h | h | h)
        · exact .inr (.inl h)
        · exact .inl h
        · exact .inr (.inr h)
      · rintro (h | h | h)
        · exact .inr (.inl h)
        · exact .inl h
        · exact .inr (.inr h)
theorem putD_srt {d : GDebt} : ∀ {l : List GDebt}, SrtI l → (∀ x ∈ l, x.ID ≠ d.ID) → SrtI (putD d l)
  | [], _, _ => List.pairwise_singleton _ _
  | a :: r, h, hn => by
    obtain ⟨h1, h2⟩ := List.pairwise_cons.1 h
    unfold putD; split
    · rename_i hlt
      refine List.pairwise_cons.2 ⟨fun x hx => ?_, h⟩
      rcases List.mem_cons.1 hx with rfl | hx
      · exact hlt
      · have := h1 x hx; omega
    · rename_i hlt
      refine List.pairwise_cons.2 ⟨fun x hx => ?_, putD_srt h2 fun x hx => hn x (List.mem_cons_of_mem _ hx)⟩
      rcases putD_mem.1 hx with rfl | hx
      · have := hn a (List.mem_cons_self ..); omega
      · exact h1 x hx
theorem putD_cnt {d : GDebt} : ∀ {l : List GDebt}, cntA (putD d l) = d.Count + cntA l
  | [] => rfl
  | a :: r => by
    unfold putD; split
    · rfl
    · simp only [cntA, putD_cnt (l := r)]; omega
theorem lessD_mem {k n : Int} : ∀ {l : List GDebt} {x : GDebt}, x ∈ lessD k n l → ∃ y ∈ l, y.ID = x.ID
  | [], x, h => by cases h
  | a :: r, x, h => by
    unfold lessD at h; split at h
    · split at h
      · exact ⟨x, List.mem_cons_of_mem _ h, rfl⟩
      · rcases List.mem_cons.1 h with rfl | h
        · exact ⟨a, List.mem_cons_self .., rfl⟩
        · exact ⟨x, List.mem_cons_of_mem _ h, rfl⟩
    · rcases List.mem_cons.1 h with rfl | h
      · exact ⟨x, List.mem_cons_self .., rfl⟩
      · obtain ⟨y, hy, e⟩ := lessD_mem h
        exact ⟨y, List.mem_cons_of_mem _ hy, e⟩
theorem lessD_srt {k n : Int} : ∀ {l : List GDebt}, SrtI l → SrtI (lessD k n l)
  | [], h => h
  | a :: r, h => by
    obtain ⟨h1, h2⟩ := List.pairwise_cons.1 h
    unfold lessD; split
    · split
      · exact h2
      · exact List.pairwise_cons.2 ⟨fun x hx => h1 x hx, h2⟩
    · refine List.pairwise_cons.2 ⟨fun x hx => ?_, lessD_srt h2⟩
      obtain ⟨y, hy, e⟩ := lessD_mem hx
      have := h1 y hy; omega
theorem lessD_pos {k n : Int} {d : GDebt} : ∀ {l : List GDebt}, PosD l → getD k l = some d → n ≤ d.Count → PosD (lessD k n l)
  | [], h, _, _ => h
  | a :: r, h, hg, hn => by
    have hr : PosD r := fun x hx => h x (List.mem_cons_of_mem _ hx)
    unfold getD at hg
    unfold lessD; split
    · rename_i e
      rw [if_pos e] at hg
      have e' : a = d := Option.some.inj hg
      rw [← e'] at hn
      split
      · exact hr
      · intro x hx
        rcases List.mem_cons.1 hx with rfl | hx
        · show 1 ≤ a.Count - n; omega
        · exact hr x hx
    · rename_i e
      rw [if_neg e] at hg
      intro x hx
      rcases List.mem_cons.1 hx with rfl | hx
      · exact h _ (List.mem_cons_self ..)
      · exact lessD_pos hr hg hn x hx
theorem lessD_cnt {k n : Int} {d : GDebt} : ∀ {l : List GDebt}, getD k l = some d → cntA (lessD k n l) = cntA l - n
  | [], hg => by cases hg
  | a :: r, hg => by
    unfold getD at hg
    unfold lessD; split
    · split
      · simp only [cntA]; omega
      · simp only [cntA]; omega
    · rename_i e
      rw [if_neg e] at hg
      simp only [cntA, lessD_cnt hg]; omega
/-- What holds of the books at all times. -/
structure BkOk (b : Bk) : Prop where
  srt : SrtI b.op
  pos : PosD b.op
  used : ∀ d ∈ b.op, b.used d.ID = true
  rng : ∀ k, b.used k = true → 0 ≤ k ∧ k ≤ 199
  sum : b.sums.Owed = b.sums.Served + b.sums.Paid + cntA b.op
  opn : b.sums.Open = 0
theorem bk0_ok : BkOk bk0 := ⟨List.Pairwise.nil, fun _ h => (by cases h), fun _ h => (by cases h), fun k h => (by cases h), rfl, rfl⟩
theorem setU_of {f : Int → Bool} {k x : Int} (h : f x = true) : setU f k x = true := by unfold setU; split <;> simp [h]
theorem setU_iff {f : Int → Bool} {k x : Int} : setU f k x = true ↔ x = k ∨ f x = true := by unfold setU; split <;> simp_all
theorem fresh_ne {b : Bk} {k : Int} (h : freshB b k = true) (hb : BkOk b) : ∀ x ∈ b.op, x.ID ≠ k := fun x hx e => by
  have := hb.used x hx
  rw [e] at this
  simp [freshB, this] at h
theorem has_get {b : Bk} {x : GDeed} (h : hasB b x = true) : ∃ d, getD x.ID b.op = some d ∧ x.Count ≤ d.Count ∧ x.Due = 0 := by
  unfold hasB at h
  split at h
  · cases h
  · rename_i d e
    simp at h
    exact ⟨d, e, h.1, h.2⟩
theorem doB_ok {b c : Bk} {x : GDeed} (hb : BkOk b) (h : doB b x = some c) : BkOk c := by
  unfold doB at h
  split at h
  · cases h
  rename_i hin
  have hin' : inBO x = true := by simpa using hin
  simp only [inBO, Bool.and_eq_true, betw_iff] at hin'
  split at h
  · split at h
    · cases h
      rename_i hc
      simp only [canOwe, Bool.and_eq_true, decide_eq_true_eq, betw_iff] at hc
      have hf := fresh_ne hc.1.2 hb
      refine ⟨putD_srt hb.srt hf, fun d hd => ?_, fun d hd => ?_, fun k hk => ?_, ?_, hb.opn⟩
      · rcases putD_mem.1 hd with rfl | hd
        · exact hin'.1.1.1
        · exact hb.pos d hd
      · rcases putD_mem.1 hd with rfl | hd
        · exact setU_iff.2 (.inl rfl)
        · exact setU_of (hb.used d hd)
      · rcases setU_iff.1 hk with rfl | hk
        · exact hin'.2
        · exact hb.rng k hk
      · show b.sums.Owed + x.Count = b.sums.Served + b.sums.Paid + cntA (putD _ b.op)
        rw [putD_cnt]; have := hb.sum; show _ = _ + (x.Count + _); omega
    · cases h
  split at h
  · split at h
    · cases h
      rename_i hc
      simp only [canServe, Bool.and_eq_true] at hc
      obtain ⟨d, h1, h2, h3⟩ := has_get hc.1.2
      refine ⟨lessD_srt hb.srt, lessD_pos hb.pos h1 h2, fun d hd => ?_, hb.rng, ?_, hb.opn⟩
      · obtain ⟨y, hy, e⟩ := lessD_mem hd
        show b.used d.ID = true
        rw [← e]; exact hb.used y hy
      · show b.sums.Owed = b.sums.Served + x.Count + b.sums.Paid + cntA (lessD _ _ b.op)
        rw [lessD_cnt h1]; have := hb.sum; omega
    · cases h
  split at h
  · split at h
    · cases h
      rename_i hc
      simp only [canMove, Bool.and_eq_true, betw_iff] at hc
      obtain ⟨d, h1, h2, h3⟩ := has_get hc.1.1.1.1
      have hf := fresh_ne hc.1.1.2 hb
      have hf' : ∀ y ∈ lessD x.ID x.Count b.op, y.ID ≠ x.To := fun y hy e => by
        obtain ⟨z, hz, e'⟩ := lessD_mem hy
        exact hf z hz (e'.trans e)
      have ht : 0 ≤ x.To ∧ x.To ≤ 199 := by
        have := hc.1.1.2
        simp only [freshB, Bool.and_eq_true, betw_iff] at this
        exact this.1
      refine ⟨putD_srt (lessD_srt hb.srt) hf', fun d hd => ?_, fun d hd => ?_, fun k hk => ?_, ?_, hb.opn⟩
      · rcases putD_mem.1 hd with rfl | hd
        · exact hin'.1.1.1
        · exact lessD_pos hb.pos h1 h2 d hd
      · rcases putD_mem.1 hd with rfl | hd
        · exact setU_iff.2 (.inl rfl)
        · obtain ⟨y, hy, e⟩ := lessD_mem hd
          exact setU_of (by rw [← e]; exact hb.used y hy)
      · rcases setU_iff.1 hk with rfl | hk
        · exact ht
        · exact hb.rng k hk
      · show b.sums.Owed = b.sums.Served + b.sums.Paid + cntA (putD _ (lessD _ _ b.op))
        rw [putD_cnt, lessD_cnt h1]; have := hb.sum; show _ = _ + (x.Count + _); omega
    · cases h
  split at h
  · split at h
    · cases h
      rename_i hc
      simp only [canPay, Bool.and_eq_true] at hc
      obtain ⟨d, h1, h2, h3⟩ := has_get hc.2
      refine ⟨lessD_srt hb.srt, lessD_pos hb.pos h1 h2, fun d hd => ?_, hb.rng, ?_, hb.opn⟩
      · obtain ⟨y, hy, e⟩ := lessD_mem hd
        show b.used d.ID = true
        rw [← e]; exact hb.used y hy
      · show b.sums.Owed = b.sums.Served + (b.sums.Paid + x.Count) + cntA (lessD _ _ b.op)
        rw [lessD_cnt h1]; have := hb.sum; omega
    · cases h
  · cases h
theorem bookOf_ok : ∀ (l : List GDeed) (s : Bk × Int), BkOk s.1 → BkOk (bookOf s l).1
  | [], s, h => h
  | x :: r, s, h => by
    unfold bookOf
    cases e : stepB s x with
    | none => exact h
    | some s' =>
      refine bookOf_ok r s' ?_
      unfold stepB at e
      split at e
      · cases e2 : doB s.1 x with
        | none => rw [e2] at e; cases e
        | some c => rw [e2] at e; cases e; exact doB_ok h e2
      · cases e
/-- What the deeds of a kind come to. -/
def kindS (k : Int) : List GDeed → Int
  | [] => 0
  | x :: r => (if x.Kind = k then x.Count else 0) + kindS k r
theorem doB_sums {b c : Bk} {x : GDeed} (h : doB b x = some c) : (x.Kind = 1 ∨ x.Kind = 2 ∨ x.Kind = 3 ∨ x.Kind = 4) ∧ c.sums.Owed = b.sums.Owed + (if x.Kind = 1 then x.Count else 0) ∧ c.sums.Served = b.sums.Served + (if x.Kind = 2 then x.Count else 0) ∧ c.sums.Moved = b.sums.Moved + (if x.Kind = 3 then x.Count else 0) ∧ c.sums.Paid = b.sums.Paid + (if x.Kind = 4 then x.Count else 0) ∧ 1 ≤ x.Count ∧ x.Count ≤ 50 := by
  unfold doB at h
  split at h
  · cases h
  rename_i hin
  have hin' : inBO x = true := by simpa using hin
  simp only [inBO, Bool.and_eq_true, betw_iff] at hin'
  (repeat' split at h) <;> first | cases h | skip
  all_goals (rename_i hk _; try simp [hk]; simp [oweB, serveB, moveB, payB, *])
theorem bookOf_sums : ∀ (l : List GDeed) (s : Bk × Int), badAt s l = none → (bookOf s l).1.sums.Owed = s.1.sums.Owed + kindS 1 l ∧ (bookOf s l).1.sums.Served = s.1.sums.Served + kindS 2 l ∧ (bookOf s l).1.sums.Moved = s.1.sums.Moved + kindS 3 l ∧ (bookOf s l).1.sums.Paid = s.1.sums.Paid + kindS 4 l ∧ ∀ x ∈ l, (1 ≤ x.Kind ∧ x.Kind ≤ 4) ∧ 1 ≤ x.Count ∧ x.Count ≤ 50
  | [], s, _ => by simp [bookOf, kindS]
  | x :: r, s, h => by
    unfold badAt at h
    unfold bookOf
    cases e : stepB s x with
    | none => rw [e] at h; cases h
    | some s' =>
      rw [e] at h
      have ih := bookOf_sums r s' (by simpa using h)
      have hd : doB s.1 x = some s'.1 := by
        unfold stepB at e
        split at e
        · cases e2 : doB s.1 x with
          | none => rw [e2] at e; cases e
          | some c => rw [e2] at e; cases e; rfl
        · cases e
      obtain ⟨k, h1, h2, h3, h4, h5⟩ := doB_sums hd
      obtain ⟨i1, i2, i3, i4, i5⟩ := ih
      simp only [kindS]
      refine ⟨by rw [i1, h1]; omega, by rw [i2, h2]; omega, by rw [i3, h3]; omega, by rw [i4, h4]; omega, fun y hy => ?_⟩
      rcases List.mem_cons.1 hy with rfl | hy
      · exact ⟨by omega, h5⟩
      · exact i5 y hy
end Go.Proofs.YtgdmaadikcnagaaDoor
/- Numbers within bounds; debts and openings that are valid; a copy of debts. -/
namespace Go.Proofs.YtgdmaadikcnagaaDoor
open Go Go.Gx Go.RowKit
set_option linter.unusedVariables false
set_option linter.unusedSimpArgs false

theorem bt_spec {n lo hi : Int} {w : World} : CallsV Tryd.prog 45 #[.int .i64 n, .int .i64 lo, .int .i64 hi] w (.bool (betw n lo hi)) := by
  have S := St.start w
  refine CallsV.mk ?_
  refine calls_enter Tryd.func45 rfl (by intro _ h; first | exact nomatch h.1 | (obtain ⟨_, h, _⟩ := h; exact nomatch h)) Tryd.ntmps45 rfl ?_
  repeat' (first | refine WP_seq ?_ | refine WP_region ?_ | refine wl_nil ?_ | refine then_normal ?_ | refine WP_ret ?_ | (refine g_guard ?_; refine st_off rfl ?_) | (refine g_move ?_; refine st_move rfl ?_) | (refine g_assign ?_; refine st_assign rfl ?_) | (refine g_pick ?_; first | refine st_pickT rfl rfl ?_ | refine st_pickF rfl rfl ?_) | (refine g_b_leq ?_; refine st_val rfl (r_leq rfl rfl) ?_) | (refine g_b_geq ?_; refine st_val rfl (r_geq rfl rfl) ?_) | (refine wl_split rfl rfl (fun h => ?_) (fun h => ?_) <;> (fail_if_success (have hh : true = true := h)) <;> (fail_if_success (have hh : false = false := h)) <;> (try simp only [decide_eq_true_eq, decide_eq_false_iff_not, Bool.not_eq_true', Bool.not_eq_false', Int.not_lt, Int.not_le] at h) <;> (try (exfalso; omega))))
  all_goals (refine end1 rfl rfl ⟨rb ?_, S.below⟩; simp [betw]; try omega)
def okDt (d : GDebt) : Bool := decide (d.ID ≤ 199 ∧ 0 ≤ d.Contract ∧ d.Contract ≤ 99 ∧ 1 ≤ d.Count ∧ d.Count ≤ 50 ∧ 0 ≤ d.Due ∧ d.Due ≤ 10000000)
def prevD (l : List GDebt) (i : Int) : Int := if i = 0 then -1 else (nth l (i - 1)).ID
def okDa (l : List GDebt) (i : Int) : Bool := okDt (nth l i) && decide (prevD l i < (nth l i).ID)
def okOp (o : GOpening) : Bool := decide (o.At ≤ 9999999 ∧ 1 ≤ o.Count ∧ o.Count ≤ 20)
def prevO (l : List GOpening) (i : Int) : Int := if i = 0 then -1 else (nth l (i - 1)).At
def okOa (l : List GOpening) (i : Int) : Bool := okOp (nth l i) && decide (prevO l i < (nth l i).At)
def allI (n : Nat) (p : Int → Bool) : Bool := (List.range n).all fun i => p (i : Int)
/-- Whether debts, openings and a second are valid together. -/
def validI (ds : List GDebt) (os : List GOpening) (now : Int) : Bool := allI ds.length (okDa ds) && allI os.length (okOa os) && decide (ds.length ≤ 20 ∧ os.length ≤ 40 ∧ 0 ≤ now ∧ now ≤ 9999999)
theorem allI_of {n : Nat} {p : Int → Bool} (h : ∀ j : Int, 0 ≤ j → j < n → p j = true) : allI n p = true := List.all_eq_true.2 fun j hj => h j (by omega) (by have := List.mem_range.1 hj; omega)
theorem allI_no {n : Nat} {p : Int → Bool} {j : Int} (h0 : 0 ≤ j) (hj : j < n) (h : p j = false) : allI n p = false := List.all_eq_false.2 ⟨j.toNat, List.mem_range.2 (by omega), by rw [Int.toNat_of_nonneg h0, h]; decide⟩
theorem allI_at {n : Nat} {p : Int → Bool} (h : allI n p = true) {j : Int} (h0 : 0 ≤ j) (hj : j < n) : p j = true := by
  have := List.all_eq_true.1 h j.toNat (List.mem_range.2 (by omega))
  rwa [Int.toNat_of_nonneg h0] at this
theorem prevD_cases (l : List GDebt) {i : Int} (h : 0 ≤ i) : (i = 0 ∧ prevD l i = -1) ∨ (0 < i ∧ prevD l i = (nth l (i - 1)).ID) := by
  unfold prevD; split
  · exact .inl ⟨by omega, rfl⟩
  · exact .inr ⟨by omega, rfl⟩
theorem prevD_next (l : List GDebt) {i : Int} (h : 0 ≤ i) : prevD l (i + 1) = (nth l i).ID := by
  unfold prevD; rw [if_neg (by omega), show i + 1 - 1 = i by omega]
theorem prevO_next (l : List GOpening) {i : Int} (h : 0 ≤ i) : prevO l (i + 1) = (nth l i).At := by
  unfold prevO; rw [if_neg (by omega), show i + 1 - 1 = i by omega]
theorem prevD_low {l : List GDebt} : ∀ (n : Nat), (∀ j : Int, 0 ≤ j → j < n → okDa l j = true) → -1 ≤ prevD l n
  | 0, _ => by unfold prevD; rw [if_pos (by omega)]; omega
  | n + 1, h => by
    have ih := prevD_low n fun j a b => h j a (by omega)
    have h1 := h n (by omega) (by omega)
    unfold okDa at h1
    simp only [Bool.and_eq_true, decide_eq_true_eq] at h1
    have := prevD_next l (i := (n : Int)) (by omega)
    rw [show ((n + 1 : Nat) : Int) = (n : Int) + 1 by omega, this]; omega
theorem prevO_low {l : List GOpening} : ∀ (n : Nat), (∀ j : Int, 0 ≤ j → j < n → okOa l j = true) → -1 ≤ prevO l n
  | 0, _ => by unfold prevO; rw [if_pos (by omega)]; omega
  | n + 1, h => by
    have ih := prevO_low n fun j a b => h j a (by omega)
    have h1 := h n (by omega) (by omega)
    unfold okOa at h1
    simp only [Bool.and_eq_true, decide_eq_true_eq] at h1
    have := prevO_next l (i := (n : Int)) (by omega)
    rw [show ((n + 1 : Nat) : Int) = (n : Int) + 1 by omega, this]; omega
theorem okD_high {l : List GDebt} {i : Int} (h0 : 0 ≤ i) (h : ∀ j : Int, 0 ≤ j → j < i → okDa l j = true) : -1 ≤ prevD l i ∧ prevD l i ≤ 199 := by
  obtain ⟨n, rfl⟩ : ∃ n : Nat, i = n := ⟨i.toNat, by omega⟩
  refine ⟨prevD_low n h, ?_⟩
  rcases prevD_cases l h0 with ⟨_, e⟩ | ⟨h1, e⟩
  · omega
  · have := h ((n : Int) - 1) (by omega) (by omega)
    unfold okDa okDt at this
    simp only [Bool.and_eq_true, decide_eq_true_eq] at this
    omega
theorem okO_high {l : List GOpening} {i : Int} (h0 : 0 ≤ i) (h : ∀ j : Int, 0 ≤ j → j < i → okOa l j = true) : -1 ≤ prevO l i ∧ prevO l i ≤ 9999999 := by
  obtain ⟨n, rfl⟩ : ∃ n : Nat, i = n := ⟨i.toNat, by omega⟩
  refine ⟨prevO_low n h, ?_⟩
  unfold prevO
  split
  · omega
  · have := h ((n : Int) - 1) (by omega) (by omega)
    unfold okOa okOp at this
    simp only [Bool.and_eq_true, decide_eq_true_eq] at this
    omega
theorem okDa_iff {l : List GDebt} {i : Int} {b : Bool} (h : okDa l i = b) : (b = true → (nth l i).ID ≤ 199 ∧ prevD l i < (nth l i).ID ∧ 0 ≤ (nth l i).Contract ∧ (nth l i).Contract ≤ 99 ∧ 1 ≤ (nth l i).Count ∧ (nth l i).Count ≤ 50 ∧ 0 ≤ (nth l i).Due ∧ (nth l i).Due ≤ 10000000) ∧ (b = false → ¬ ((nth l i).ID ≤ 199 ∧ prevD l i < (nth l i).ID ∧ 0 ≤ (nth l i).Contract ∧ (nth l i).Contract ≤ 99 ∧ 1 ≤ (nth l i).Count ∧ (nth l i).Count ≤ 50 ∧ 0 ≤ (nth l i).Due ∧ (nth l i).Due ≤ 10000000)) := by
  subst h
  unfold okDa okDt
  constructor
  · intro h; simp only [Bool.and_eq_true, decide_eq_true_eq] at h; omega
  · intro h k; simp only [Bool.and_eq_false_iff, decide_eq_false_iff_not] at h; omega
theorem okOa_iff {l : List GOpening} {i : Int} {b : Bool} (h : okOa l i = b) : (b = true → (nth l i).At ≤ 9999999 ∧ prevO l i < (nth l i).At ∧ 1 ≤ (nth l i).Count ∧ (nth l i).Count ≤ 20) ∧ (b = false → ¬ ((nth l i).At ≤ 9999999 ∧ prevO l i < (nth l i).At ∧ 1 ≤ (nth l i).Count ∧ (nth l i).Count ≤ 20)) := by
  subst h
  unfold okOa okOp
  constructor
  · intro h; simp only [Bool.and_eq_true, decide_eq_true_eq] at h; omega
  · intro h k; simp only [Bool.and_eq_false_iff, decide_eq_false_iff_not] at h; omega
theorem validI_spec {v v2 : Value} {ds : List GDebt} {os : List GOpening} {now : Int} {w : World} (hr : Rd fGDebt.ty w v ds) (ho : Rd fGOpening.ty w v2 os) (hl : ds.length ≤ 1000000000) (hm : os.length ≤ 1000000000) : CallsV Tryd.prog 29 #[v, v2, .int .i64 now] w (.bool (validI ds os now)) := by
  have S := St.start w
  obtain ⟨A, c, rfl⟩ := hr.len
  obtain ⟨A2, c2, rfl⟩ := ho.len
  refine CallsV.mk ?_
  refine calls_enter Tryd.func29 rfl (by intro _ h; first | exact nomatch h.1 | (obtain ⟨_, h, _⟩ := h; exact nomatch h)) Tryd.ntmps29 rfl ?_
  repeat' (first | refine WP_seq ?_ | refine WP_region ?_ | refine wl_nil ?_ | refine then_normal ?_ | refine WP_block ?_ | (refine g_move ?_; refine st_move rfl ?_) | (refine g_assign ?_; refine st_assign rfl ?_) | (refine g_c_len ?_; refine st_val rfl (r_lenSlice rfl) ?_))
  refine WP_loop (fun k σ w1 => ∃ i : Int, Has σ [(0, .slice A ds.length c), (1, .slice A2 os.length c2), (2, .int .i64 now), (7, .int .i64 (prevD ds i)), (12, .slice A ds.length c), (13, .int .i64 ds.length), (14, .int .i64 i)] ∧ St w w1 [] ∧ 0 ≤ i ∧ i ≤ ds.length ∧ (∀ j : Int, 0 ≤ j → j < i → okDa ds j = true) ∧ k = ds.length - i.toNat) ds.length ⟨0, ⟨rfl, rfl, rfl, rfl, rfl, rfl, rfl, trivial⟩, S, by omega, by omega, fun j a b => by omega, by omega⟩ ?_
  clear S
  rintro k σ w1 ⟨i, hs, S, hi0, hi1, hok, rfl⟩
  refine WP_has hs ?_
  have hp := okD_high hi0 hok
  by_cases hi : i < ds.length
  · cases hb : okDa ds i with
    | true =>
      have hk := (okDa_iff hb).1 rfl
      repeat' (first | refine WP_seq ?_ | refine WP_region ?_ | refine wl_nil ?_ | refine then_normal ?_ | refine inB_normal ?_ | refine WP_skip ?_ | refine WP_block ?_ | (refine g_move ?_; refine st_move rfl ?_) | (refine g_assign ?_; refine st_assign rfl ?_) | (refine g_pick ?_; refine st_pickF rfl rfl ?_) | (refine g_b_add ?_; (refine st_val rfl (r_addN rfl rfl ?_ ?_) ?_; (first | omega | (simp <;> omega)); (first | omega | (simp <;> omega)))) | (refine g_b_lss ?_; refine st_val rfl (r_lss rfl rfl) ?_) | (refine g_un ?_; refine st_val rfl (r_not rfl) ?_) | (refine g_fieldAddr ?_; refine st_val rfl (r_fieldAddrL rfl) ?_) | (refine g_indexAddr ?_; (refine st_val rfl (r_indexAddr (hr.mono S.below) rfl rfl ?_ ?_) ?_; (first | omega | (simp <;> omega)); (first | omega | (simp <;> omega)))) | (refine g_load ?_; first | (refine st_val rfl (r_loadElem (hr.mono S.below) rfl ?_ ?_) ?_; (first | omega | (simp <;> omega)); (first | omega | (simp <;> omega))) | refine st_val rfl (r_loadVar (i := 0) S rfl rfl rfl) ?_) | (refine g_callV ?_; (refine st_callV rfl (r_call3 rfl rfl rfl rfl) (bt_spec) ?_; intro w hb; replace S := S.grow hb; clear hb)) | (refine g_alloc ?_; refine st_valE rfl (r_alloc S) ?_; rintro _ w ⟨b, rfl, -, S'⟩; replace S := S'; clear S') | (refine g_store ?_; (refine st_skipE rfl (r_storeVar (i := 0) S rfl rfl rfl rfl (of_decide_eq_true rfl) (of_decide_eq_true rfl)) ?_; intro w S'; replace S := S'; clear S')) | (refine wl_split rfl rfl (fun h => ?_) (fun h => ?_) <;> (fail_if_success (have hh : true = true := h)) <;> (fail_if_success (have hh : false = false := h)) <;> (try simp only [decide_eq_true_eq, decide_eq_false_iff_not, Bool.not_eq_true', Bool.not_eq_false', Int.not_lt, Int.not_le] at h) <;> (try (exfalso; omega)) <;> (try (exfalso; simp only [betw, decide_eq_true_eq, decide_eq_false_iff_not, Bool.not_eq_true', Bool.not_eq_false', Int.not_lt, Int.not_le] at *; omega; done))) | (refine WP_cond rfl (fun h => ?_) (fun h => ?_) <;> (fail_if_success (have hh : true = true := h)) <;> (fail_if_success (have hh : false = false := h)) <;> (try simp only [decide_eq_true_eq, decide_eq_false_iff_not, Bool.not_eq_true', Bool.not_eq_false', Int.not_lt, Int.not_le] at h) <;> (try (exfalso; omega)) <;> (try (exfalso; simp only [betw, decide_eq_true_eq, decide_eq_false_iff_not, Bool.not_eq_true', Bool.not_eq_false', Int.not_lt, Int.not_le] at *; omega; done))))
      all_goals
        refine ⟨⟨_, ?_, i + 1, ⟨rfl, rfl, rfl, by rw [prevD_next ds hi0]; rfl, rfl, rfl, rfl, trivial⟩, S.keep [false], by omega, by omega, fun j p q => ?_, rfl⟩⟩
        · omega
        · by_cases e : j = i
          · subst e; exact hb
          · exact hok j p (by omega)
    | false =>
      have hk := (okDa_iff hb).2 rfl
      have hv : validI ds os now = false := by unfold validI; rw [allI_no hi0 hi hb]; rfl
      rw [hv]
      repeat' (first | refine WP_seq ?_ | refine WP_region ?_ | refine wl_nil ?_ | refine then_normal ?_ | refine then_ret ?_ | refine inB_ret ?_ | refine WP_ret ?_ | refine WP_skip ?_ | refine WP_block ?_ | refine WP_condT rfl ?_ | (refine g_guard ?_; refine st_off rfl ?_) | (refine g_move ?_; refine st_move rfl ?_) | (refine g_assign ?_; refine st_assign rfl ?_) | (refine g_pick ?_; first | refine st_pickT rfl rfl ?_ | refine st_pickF rfl rfl ?_) | (refine g_b_add ?_; (refine st_val rfl (r_addN rfl rfl ?_ ?_) ?_; (first | omega | (simp <;> omega)); (first | omega | (simp <;> omega)))) | (refine g_b_lss ?_; refine st_val rfl (r_lss rfl rfl) ?_) | (refine g_un ?_; refine st_val rfl (r_not rfl) ?_) | (refine g_fieldAddr ?_; refine st_val rfl (r_fieldAddrL rfl) ?_) | (refine g_indexAddr ?_; (refine st_val rfl (r_indexAddr (hr.mono S.below) rfl rfl ?_ ?_) ?_; (first | omega | (simp <;> omega)); (first | omega | (simp <;> omega)))) | (refine g_load ?_; first | (refine st_val rfl (r_loadElem (hr.mono S.below) rfl ?_ ?_) ?_; (first | omega | (simp <;> omega)); (first | omega | (simp <;> omega))) | refine st_val rfl (r_loadVar (i := 0) S rfl rfl rfl) ?_) | (refine g_callV ?_; (refine st_callV rfl (r_call3 rfl rfl rfl rfl) (bt_spec) ?_; intro w hb; replace S := S.grow hb; clear hb)) | (refine g_alloc ?_; refine st_valE rfl (r_alloc S) ?_; rintro _ w ⟨b, rfl, -, S'⟩; replace S := S'; clear S') | (refine g_store ?_; (refine st_skipE rfl (r_storeVar (i := 0) S rfl rfl rfl rfl (of_decide_eq_true rfl) (of_decide_eq_true rfl)) ?_; intro w S'; replace S := S'; clear S')) | (refine wl_split rfl rfl (fun h => ?_) (fun h => ?_) <;> (fail_if_success (have hh : true = true := h)) <;> (fail_if_success (have hh : false = false := h)) <;> (try simp only [decide_eq_true_eq, decide_eq_false_iff_not, Bool.not_eq_true', Bool.not_eq_false', Int.not_lt, Int.not_le] at h) <;> (try (exfalso; omega)) <;> (try (exfalso; simp only [betw, decide_eq_true_eq, decide_eq_false_iff_not, Bool.not_eq_true', Bool.not_eq_false', Int.not_lt, Int.not_le] at *; omega; done))) | (refine WP_cond rfl (fun h => ?_) (fun h => ?_) <;> (fail_if_success (have hh : true = true := h)) <;> (fail_if_success (have hh : false = false := h)) <;> (try simp only [decide_eq_true_eq, decide_eq_false_iff_not, Bool.not_eq_true', Bool.not_eq_false', Int.not_lt, Int.not_le] at h) <;> (try (exfalso; omega)) <;> (try (exfalso; simp only [betw, decide_eq_true_eq, decide_eq_false_iff_not, Bool.not_eq_true', Bool.not_eq_false', Int.not_lt, Int.not_le] at *; omega; done))))
      all_goals exact end1 rfl rfl ⟨rfl, S.below⟩
  have hall : allI ds.length (okDa ds) = true := allI_of fun j a b => hok j a (by omega)
  clear hok hp
  repeat' (first | refine WP_seq ?_ | refine WP_region ?_ | refine wl_nil ?_ | refine then_normal ?_ | refine then_exit ?_ | refine inB_here ?_ | refine WP_exit ?_ | refine WP_block ?_ | (refine g_move ?_; refine st_move rfl ?_) | (refine g_assign ?_; refine st_assign rfl ?_) | (refine g_b_lss ?_; refine st_val rfl (r_lss rfl rfl) ?_) | (refine g_c_len ?_; refine st_val rfl (r_lenSlice rfl) ?_) | (refine WP_cond rfl (fun h => ?_) (fun h => ?_) <;> (fail_if_success (have hh : true = true := h)) <;> (fail_if_success (have hh : false = false := h)) <;> (try simp only [decide_eq_true_eq, decide_eq_false_iff_not, Bool.not_eq_true', Bool.not_eq_false', Int.not_lt, Int.not_le] at h) <;> (try (exfalso; omega))))
  all_goals
    clear hs
    refine WP_loop (fun k σ w1 => ∃ i : Int, Has σ [(0, .slice A ds.length c), (1, .slice A2 os.length c2), (2, .int .i64 now), (7, .int .i64 (prevO os i)), (45, .slice A2 os.length c2), (46, .int .i64 os.length), (47, .int .i64 i)] ∧ St w w1 [] ∧ 0 ≤ i ∧ i ≤ os.length ∧ (∀ j : Int, 0 ≤ j → j < i → okOa os j = true) ∧ k = os.length - i.toNat) os.length ⟨0, ⟨rfl, rfl, rfl, rfl, rfl, rfl, rfl, trivial⟩, S, by omega, by omega, fun j a b => by omega, by omega⟩ ?_
    clear S
    rintro k σ w1 ⟨i, hs, S, hi0, hi1, hok, rfl⟩
    refine WP_has hs ?_
    have hp := okO_high hi0 hok
    by_cases hi : i < os.length
    · cases hb : okOa os i with
      | true =>
        have hk := (okOa_iff hb).1 rfl
        repeat' (first | refine WP_seq ?_ | refine WP_region ?_ | refine wl_nil ?_ | refine then_normal ?_ | refine inB_normal ?_ | refine WP_skip ?_ | refine WP_block ?_ | (refine g_move ?_; refine st_move rfl ?_) | (refine g_assign ?_; refine st_assign rfl ?_) | (refine g_pick ?_; refine st_pickF rfl rfl ?_) | (refine g_b_add ?_; (refine st_val rfl (r_addN rfl rfl ?_ ?_) ?_; (first | omega | (simp <;> omega)); (first | omega | (simp <;> omega)))) | (refine g_b_lss ?_; refine st_val rfl (r_lss rfl rfl) ?_) | (refine g_un ?_; refine st_val rfl (r_not rfl) ?_) | (refine g_fieldAddr ?_; refine st_val rfl (r_fieldAddrL rfl) ?_) | (refine g_indexAddr ?_; (refine st_val rfl (r_indexAddr (ho.mono S.below) rfl rfl ?_ ?_) ?_; (first | omega | (simp <;> omega)); (first | omega | (simp <;> omega)))) | (refine g_load ?_; first | (refine st_val rfl (r_loadElem (ho.mono S.below) rfl ?_ ?_) ?_; (first | omega | (simp <;> omega)); (first | omega | (simp <;> omega))) | refine st_val rfl (r_loadVar (i := 0) S rfl rfl rfl) ?_) | (refine g_callV ?_; (refine st_callV rfl (r_call3 rfl rfl rfl rfl) (bt_spec) ?_; intro w hb; replace S := S.grow hb; clear hb)) | (refine g_alloc ?_; refine st_valE rfl (r_alloc S) ?_; rintro _ w ⟨b, rfl, -, S'⟩; replace S := S'; clear S') | (refine g_store ?_; (refine st_skipE rfl (r_storeVar (i := 0) S rfl rfl rfl rfl (of_decide_eq_true rfl) (of_decide_eq_true rfl)) ?_; intro w S'; replace S := S'; clear S')) | (refine wl_split rfl rfl (fun h => ?_) (fun h => ?_) <;> (fail_if_success (have hh : true = true := h)) <;> (fail_if_success (have hh : false = false := h)) <;> (try simp only [decide_eq_true_eq, decide_eq_false_iff_not, Bool.not_eq_true', Bool.not_eq_false', Int.not_lt, Int.not_le] at h) <;> (try (exfalso; omega)) <;> (try (exfalso; simp only [betw, decide_eq_true_eq, decide_eq_false_iff_not, Bool.not_eq_true', Bool.not_eq_false', Int.not_lt, Int.not_le] at *; omega; done))) | (refine WP_cond rfl (fun h => ?_) (fun h => ?_) <;> (fail_if_success (have hh : true = true := h)) <;> (fail_if_success (have hh : false = false := h)) <;> (try simp only [decide_eq_true_eq, decide_eq_false_iff_not, Bool.not_eq_true', Bool.not_eq_false', Int.not_lt, Int.not_le] at h) <;> (try (exfalso; omega)) <;> (try (exfalso; simp only [betw, decide_eq_true_eq, decide_eq_false_iff_not, Bool.not_eq_true', Bool.not_eq_false', Int.not_lt, Int.not_le] at *; omega; done))))
        all_goals
          refine ⟨⟨_, ?_, i + 1, ⟨rfl, rfl, rfl, by rw [prevO_next os hi0]; rfl, rfl, rfl, rfl, trivial⟩, S.keep [false], by omega, by omega, fun j p q => ?_, rfl⟩⟩
          · omega
          · by_cases e : j = i
            · subst e; exact hb
            · exact hok j p (by omega)
      | false =>
        have hk := (okOa_iff hb).2 rfl
        have hv : validI ds os now = false := by unfold validI; rw [allI_no hi0 hi hb, Bool.and_false]; rfl
        rw [hv]
        repeat' (first | refine WP_seq ?_ | refine WP_region ?_ | refine wl_nil ?_ | refine then_normal ?_ | refine then_ret ?_ | refine inB_ret ?_ | refine WP_ret ?_ | refine WP_skip ?_ | refine WP_block ?_ | refine WP_condT rfl ?_ | (refine g_guard ?_; refine st_off rfl ?_) | (refine g_move ?_; refine st_move rfl ?_) | (refine g_assign ?_; refine st_assign rfl ?_) | (refine g_pick ?_; first | refine st_pickT rfl rfl ?_ | refine st_pickF rfl rfl ?_) | (refine g_b_add ?_; (refine st_val rfl (r_addN rfl rfl ?_ ?_) ?_; (first | omega | (simp <;> omega)); (first | omega | (simp <;> omega)))) | (refine g_b_lss ?_; refine st_val rfl (r_lss rfl rfl) ?_) | (refine g_un ?_; refine st_val rfl (r_not rfl) ?_) | (refine g_fieldAddr ?_; refine st_val rfl (r_fieldAddrL rfl) ?_) | (refine g_indexAddr ?_; (refine st_val rfl (r_indexAddr (ho.mono S.below) rfl rfl ?_ ?_) ?_; (first | omega | (simp <;> omega)); (first | omega | (simp <;> omega)))) | (refine g_load ?_; first | (refine st_val rfl (r_loadElem (ho.mono S.below) rfl ?_ ?_) ?_; (first | omega | (simp <;> omega)); (first | omega | (simp <;> omega))) | refine st_val rfl (r_loadVar (i := 0) S rfl rfl rfl) ?_) | (refine g_callV ?_; (refine st_callV rfl (r_call3 rfl rfl rfl rfl) (bt_spec) ?_; intro w hb; replace S := S.grow hb; clear hb)) | (refine g_alloc ?_; refine st_valE rfl (r_alloc S) ?_; rintro _ w ⟨b, rfl, -, S'⟩; replace S := S'; clear S') | (refine g_store ?_; (refine st_skipE rfl (r_storeVar (i := 0) S rfl rfl rfl rfl (of_decide_eq_true rfl) (of_decide_eq_true rfl)) ?_; intro w S'; replace S := S'; clear S')) | (refine wl_split rfl rfl (fun h => ?_) (fun h => ?_) <;> (fail_if_success (have hh : true = true := h)) <;> (fail_if_success (have hh : false = false := h)) <;> (try simp only [decide_eq_true_eq, decide_eq_false_iff_not, Bool.not_eq_true', Bool.not_eq_false', Int.not_lt, Int.not_le] at h) <;> (try (exfalso; omega)) <;> (try (exfalso; simp only [betw, decide_eq_true_eq, decide_eq_false_iff_not, Bool.not_eq_true', Bool.not_eq_false', Int.not_lt, Int.not_le] at *; omega; done))) | (refine WP_cond rfl (fun h => ?_) (fun h => ?_) <;> (fail_if_success (have hh : true = true := h)) <;> (fail_if_success (have hh : false = false := h)) <;> (try simp only [decide_eq_true_eq, decide_eq_false_iff_not, Bool.not_eq_true', Bool.not_eq_false', Int.not_lt, Int.not_le] at h) <;> (try (exfalso; omega)) <;> (try (exfalso; simp only [betw, decide_eq_true_eq, decide_eq_false_iff_not, Bool.not_eq_true', Bool.not_eq_false', Int.not_lt, Int.not_le] at *; omega; done))))
        all_goals exact end1 rfl rfl ⟨rfl, S.below⟩
    have hall2 : allI os.length (okOa os) = true := allI_of fun j a b => hok j a (by omega)
    have hv : validI ds os now = decide (ds.length ≤ 20 ∧ os.length ≤ 40 ∧ 0 ≤ now ∧ now ≤ 9999999) := by unfold validI; rw [hall, hall2]; rfl
    rw [hv]
    clear hok hp
    repeat' (first | refine WP_seq ?_ | refine WP_region ?_ | refine wl_nil ?_ | refine then_normal ?_ | refine then_exit ?_ | refine inB_here ?_ | refine WP_ret ?_ | refine WP_exit ?_ | (refine g_guard ?_; refine st_off rfl ?_) | (refine g_move ?_; refine st_move rfl ?_) | (refine g_assign ?_; refine st_assign rfl ?_) | (refine g_pick ?_; first | refine st_pickT rfl rfl ?_ | refine st_pickF rfl rfl ?_) | (refine g_b_lss ?_; refine st_val rfl (r_lss rfl rfl) ?_) | (refine g_b_leq ?_; refine st_val rfl (r_leq rfl rfl) ?_) | (refine g_c_len ?_; refine st_val rfl (r_lenSlice rfl) ?_) | (refine g_callV ?_; (refine st_callV rfl (r_call3 rfl rfl rfl rfl) (bt_spec) ?_; intro w hb; replace S := S.grow hb; clear hb)) | (refine wl_split rfl rfl (fun h => ?_) (fun h => ?_) <;> (fail_if_success (have hh : true = true := h)) <;> (fail_if_success (have hh : false = false := h)) <;> (try simp only [decide_eq_true_eq, decide_eq_false_iff_not, Bool.not_eq_true', Bool.not_eq_false', Int.not_lt, Int.not_le] at h) <;> (try (exfalso; omega))) | (refine WP_cond rfl (fun h => ?_) (fun h => ?_) <;> (fail_if_success (have hh : true = true := h)) <;> (fail_if_success (have hh : false = false := h)) <;> (try simp only [decide_eq_true_eq, decide_eq_false_iff_not, Bool.not_eq_true', Bool.not_eq_false', Int.not_lt, Int.not_le] at h) <;> (try (exfalso; omega))))
  all_goals
    refine end1 rfl rfl ⟨rb ?_, S.below⟩
    simp only [betw, decide_eq_true_eq, decide_eq_false_iff_not, Bool.not_eq_true', Bool.not_eq_false', Int.not_lt, Int.not_le] at *
  all_goals first
    | (symm; rw [decide_eq_false_iff_not]; omega)
    | (rw [decide_eq_decide]; omega)
    | (symm; rw [decide_eq_true_iff]; omega)
/-- What is valid is fit for the plain law. -/
theorem validI_ok {ds : List GDebt} {os : List GOpening} {now : Int} (h : validI ds os now = true) : ds.length ≤ 20 ∧ os.length ≤ 40 ∧ 0 ≤ now ∧ now ≤ 9999999 ∧ (∀ j : Int, 0 ≤ j → j < ds.length → okDa ds j = true) ∧ (∀ j : Int, 0 ≤ j → j < os.length → okOa os j = true) := by
  unfold validI at h
  simp only [Bool.and_eq_true, decide_eq_true_eq] at h
  exact ⟨h.2.1, h.2.2.1, h.2.2.2.1, h.2.2.2.2, fun j a b => allI_at h.1.1 a b, fun j a b => allI_at h.1.2 a b⟩
end Go.Proofs.YtgdmaadikcnagaaDoor
/- Debts sorted by their dues, stably: at most twenty. -/
namespace Go.Proofs.YtgdmaadikcnagaaDoor
open Go Go.Gx Go.RowKit
set_option linter.unusedVariables false
set_option linter.unusedSimpArgs false

theorem one_d : ∀ (x : GDebt), ∀ u ∈ fGDebt.enc x, u.oneCell' = true := by intro x u hu; simp [fGDebt, GDebt.enc] at hu; rcases hu with rfl | rfl | rfl | rfl <;> rfl
theorem cloneD_run {v : Value} {l : List GDebt} {w0 : World} (hr : Rd (fGDebt).ty w0 v l) (hl : l.length ≤ 1000000) : CallsR Tryd.prog 36 #[v] w0 fun v' w' => NewRow (fGDebt) 33 w0 w' v' l := by
  have S := St.start w0
  obtain ⟨A0, c, rfl⟩ := hr.len
  refine CallsR.mk ?_
  refine calls_enter Tryd.func36 rfl (by intro _ h; first | exact nomatch h.1 | (obtain ⟨_, h, _⟩ := h; exact nomatch h)) Tryd.ntmps36 rfl ?_
  cases A0 with
  | none =>
    have hl0 : l = [] := by
      obtain ⟨A1, c1, e, _, h⟩ := hr
      cases e
      rcases h with h | ⟨a, e, _⟩
      · exact h.1
      · cases e
    subst hl0
    repeat' (first | refine WP_seq ?_ | refine WP_region ?_ | refine wl_nil ?_ | refine then_normal ?_ | refine then_ret ?_ | refine WP_ret ?_ | refine WP_condT rfl ?_ | (refine g_move ?_; refine st_move rfl ?_) | (refine g_assign ?_; refine st_assign rfl ?_) | (refine g_b_eql ?_; refine st_val rfl (r_eqlNil rfl rfl) ?_))
    exact end1 rfl rfl ⟨_, rfl, S.below, NewRow.nil _ _ _ _⟩
  | some a0 =>
    repeat' (first | refine WP_seq ?_ | refine WP_region ?_ | refine wl_nil ?_ | refine then_normal ?_ | refine WP_skip ?_ | refine WP_condF rfl ?_ | (refine g_move ?_; refine st_move rfl ?_) | (refine g_assign ?_; refine st_assign rfl ?_) | (refine g_b_eql ?_; refine st_val rfl (r_eqlNil rfl rfl) ?_))
    refine st_valE rfl (r_lit0 (D := fGDebt) S) ?_
    rintro vn w ⟨-, S'⟩; replace S := S'; clear S'
    repeat' ((refine g_move ?_; refine st_move rfl ?_))
    refine st_valE rfl (r_appendRd (D := fGDebt) (i := 0) S rfl (hr.mono S.below) rfl rfl rfl (by decide) one_d (by simp; omega) (by simp; omega)) ?_
    rintro va' w ⟨-, S'⟩; replace S := S'; clear S'
    repeat' (first | refine wl_nil ?_ | refine then_normal ?_ | refine WP_ret ?_ | (refine g_assign ?_; refine st_assign rfl ?_))
    exact end1 rfl rfl ⟨_, rfl, S.below, S.row (i := 0) rfl⟩

theorem cmpD_spec {x y : GDebt} {w : World} : CallsV Tryd.prog 38 #[.agg x.enc.toArray, .agg y.enc.toArray] w (.int .i64 (cmp1 x.Due y.Due)) := by
  have S := St.start w
  refine CallsV.mk ?_
  refine calls_enter Tryd.func38 rfl (by intro _ h; first | exact nomatch h.1 | (obtain ⟨_, h, _⟩ := h; exact nomatch h)) Tryd.ntmps38 rfl ?_
  repeat' (first | refine WP_seq ?_ | refine WP_region ?_ | refine wl_nil ?_ | refine then_normal ?_ | refine WP_ret ?_ | (refine g_assign ?_; refine st_assign rfl ?_) | (refine g_fieldAddr ?_; refine st_val rfl (r_fieldAddrL rfl) ?_) | (refine g_load ?_; first | refine st_val rfl (r_loadVar (i := 0) S rfl rfl rfl) ?_ | refine st_val rfl (r_loadVar (i := 1) S rfl rfl rfl) ?_) | (refine g_callV ?_; (refine st_callV rfl (r_call2 rfl rfl rfl) (cmp1_spec) ?_; intro w hb; replace S := S.grow hb; clear hb)) | (refine g_box ?_; refine st_valE rfl (r_box S rfl) ?_; rintro _ w ⟨b, rfl, -, S'⟩; replace S := S'; clear S'))
  all_goals exact end1 rfl rfl ⟨rfl, S.below⟩
/-- Debts in an order that numbers tell. -/
abbrev tabD (l : List GDebt) (f : Nat → Int) (N : Nat) : List GDebt := (tab f N).map (nth l)
abbrev rowD (l : List GDebt) (v : Value) (f : Nat → Int) (N : Nat) : Ob := rowOb fGDebt 33 v (tabD l f N)
theorem tabD_len {l : List GDebt} {f : Nat → Int} {N : Nat} : (tabD l f N).length = N := by simp [tabD, tab]
theorem tabD_nth {l : List GDebt} {f : Nat → Int} {N i : Nat} {j : Int} (h : i < N) (hj : j = i) : nth (tabD l f N) j = nth l (f i) := by
  subst hj; unfold nth tabD tab; simp [h]; rfl
theorem tabD_put {l : List GDebt} {f : Nat → Int} {N i : Nat} {j x : Int} (h : i < N) (hj : j = i) : (tabD l f N).set j.toNat (nth l x) = tabD l (fun k => if k = i then x else f k) N := by
  have := tab_put (f := f) (x := x) h hj
  unfold tabD
  rw [← this, List.map_set]
theorem rowD_ext {l : List GDebt} {v : Value} {f g : Nat → Int} {N : Nat} (h : ∀ k, k < N → f k = g k) : rowD l v f N = rowD l v g N := by
  unfold rowD tabD; rw [tab_ext h]
def cD (l : List GDebt) (x y : Int) : Bool := decide (cmp1 (nth l x).Due (nth l y).Due < 0)
theorem cD_iff {l : List GDebt} {x y : Int} : cD l x y = true ↔ (nth l x).Due < (nth l y).Due := by
  unfold cD cmp1
  rw [decide_eq_true_iff]
  (repeat' split) <;> omega
theorem cD_sw (l : List GDebt) : SW (cD l) where
  irrefl x := by
    cases h : cD l x x with
    | false => rfl
    | true => rw [cD_iff] at h; omega
  trans x y z h1 h2 := by rw [cD_iff] at *; omega
  ntrans x y z h1 h2 := by
    cases h : cD l x z with
    | false => rfl
    | true =>
      have k1 : ¬ cD l x y = true := by rw [h1]; simp
      have k2 : ¬ cD l y z = true := by rw [h2]; simp
      rw [cD_iff] at h k1 k2; omega
abbrev cvP : Value := .func (.func 38) #[] #[]
theorem insD_run {l : List GDebt} {v : Value} {f : Nat → Int} {N a b : Nat} {x y : Int} {ex : List Ob} {w0 w : World} (S : St w0 w (rowD l v f N :: ex)) (hx : x = a) (hy : y = b) (ha : a ≤ 1000) (hb : b ≤ N) (hN : N ≤ 1000000000)
    (hasc : ∀ k k', a ≤ k → k < k' → k' < b → f k < f k') :
    CallsW Tryd.prog 68 #[v, .int .i64 x, .int .i64 y, cvP] w (fun _ w' => ∃ g, (if a < b then Srt (cD l) f g a b else g = f) ∧ St w0 w' (rowD l v g N :: ex)) := by
  subst hx hy
  have hsw := cD_sw l
  refine CallsW.mk ?_
  refine calls_enter Tryd.func68 rfl (by intro _ h; first | exact nomatch h.1 | (obtain ⟨_, h, _⟩ := h; exact nomatch h)) Tryd.ntmps68 rfl ?_
  repeat' (first | refine WP_seq ?_ | refine WP_region ?_ | refine wl_nil ?_ | refine then_normal ?_ | refine WP_block ?_ | (refine g_move ?_; refine st_move rfl ?_) | (refine g_assign ?_; refine st_assign rfl ?_) | (refine g_b_add ?_; (refine st_val rfl (r_addN rfl rfl ?_ ?_) ?_; (first | omega | (simp <;> omega)); (first | omega | (simp <;> omega)))))
  refine WP_loop (fun k σ w1 => ∃ (i : Nat) (p : Int) (g : Nat → Int), Has σ [(0, v), (1, .int .i64 (a : Int)), (2, .int .i64 (b : Int)), (3, cvP), (8, .int .i64 p)] ∧ St w0 w1 (rowD l v g N :: ex) ∧ p = i ∧ a < i ∧ (i ≤ b ∨ i = a + 1) ∧ Srt (cD l) f g a i ∧ k = b - i ∧ (b ≤ a → g = f)) (b - (a + 1)) ⟨a + 1, _, f, ⟨rfl, rfl, rfl, rfl, rfl, trivial⟩, S, by omega, by omega, by omega, Srt.refl, by omega, fun _ => rfl⟩ ?_
  clear S
  rintro k σ w1 ⟨i, p, g, hs, S, rfl, hai, hib, hg, rfl, hsame⟩
  refine WP_has hs ?_
  by_cases hi : i < b
  · repeat' (first | refine WP_seq ?_ | refine WP_region ?_ | refine wl_nil ?_ | refine then_normal ?_ | refine WP_skip ?_ | refine WP_block ?_ | (refine g_move ?_; refine st_move rfl ?_) | (refine g_assign ?_; refine st_assign rfl ?_) | (refine g_b_lss ?_; refine st_val rfl (r_lss rfl rfl) ?_) | (refine WP_cond rfl (fun h => ?_) (fun h => ?_) <;> (fail_if_success (have hh : true = true := h)) <;> (fail_if_success (have hh : false = false := h)) <;> (try simp only [decide_eq_true_eq, decide_eq_false_iff_not, Bool.not_eq_true', Bool.not_eq_false', Int.not_lt, Int.not_le] at h) <;> (try (exfalso; omega))))
    refine WP_loop (fun k σ w1 => ∃ (j : Nat) (q : Int), Has σ [(0, v), (1, .int .i64 (a : Int)), (2, .int .i64 (b : Int)), (3, cvP), (8, .int .i64 (i : Int)), (9, .int .i64 q)] ∧ St w0 w1 (rowD l v (insF g j i) N :: ex) ∧ q = j ∧ a ≤ j ∧ j ≤ i ∧ (∀ k, j ≤ k → k < i → cD l (g i) (g k) = true) ∧ k = j) i ⟨i, _, ⟨rfl, rfl, rfl, rfl, rfl, rfl, trivial⟩, by rw [insF_start]; exact S, rfl, by omega, by omega, fun k p q => by omega, rfl⟩ ?_
    clear S hs
    rintro k σ w1 ⟨j, q, hs, S, rfl, haj, hji, hall, hkj⟩
    refine WP_has hs ?_
    have hl := @tabD_len l (insF g j i) N
    by_cases haj' : a < j
    · have e1 : nth (tabD l (insF g j i) N) (j : Int) = nth l (g i) := by rw [tabD_nth (i := j) (by omega) rfl]; unfold insF; rw [if_pos rfl]
      have e2 : nth (tabD l (insF g j i) N) ((j : Int) - 1) = nth l (g (j - 1)) := by rw [tabD_nth (i := j - 1) (by omega) (by omega)]; unfold insF; rw [if_neg (by omega), if_neg (by omega)]
      by_cases hc : cmp1 (nth l (g i)).Due (nth l (g (j - 1))).Due < 0
      · repeat' (first | refine WP_seq ?_ | refine then_normal ?_ | refine WP_skip ?_ | refine WP_block ?_ | (refine Pm.WP_drawPerm [0,1,5,6,7,8,9,10,11,12,13] [2,3,4] [14,15,16,17] (by kernel_rfl) (by decide +kernel) (by decide +kernel) ?_; intro w hb; replace S := S.grow hb; clear hb) | refine WP_draw (by kernel_rfl) (by kernel_rfl) ?_ | (refine ql_nil ?_; intro w hb; replace S := S.grow hb; clear hb) | (refine g_indexAddr ?_; (refine st_val rfl (r_indexAddr (S.rdRow (D := fGDebt) (i := 0) rfl) rfl rfl ?_ ?_) ?_; (first | omega | (simp <;> omega)); (first | omega | (simp <;> omega)))) | (refine gq_move ?_; refine q_move rfl ?_) | (refine gq_pick ?_; refine q_pickT rfl rfl ?_) | (refine gq_b_sub ?_; (refine q_val rfl (fun w' hb => r_subN rfl rfl ?_ ?_) ?_; (first | omega | (simp <;> omega)); (first | omega | (simp <;> omega)))) | (refine gq_b_lss ?_; refine q_val rfl (fun w' hb => r_lss rfl rfl) ?_) | (refine gq_b_gtr ?_; refine q_val rfl (fun w' hb => r_gtr rfl rfl) ?_) | (refine gq_indexAddr ?_; (refine q_val rfl (fun w' hb => r_indexAddr ((S.grow hb).rdRow (D := fGDebt) (i := 0) rfl) rfl rfl ?_ ?_) ?_; (first | omega | (simp <;> omega)); (first | omega | (simp <;> omega)))) | (refine gq_load ?_; (refine q_val rfl (fun w' hb => r_loadElem ((S.grow hb).rdRow (D := fGDebt) (i := 0) rfl) rfl ?_ ?_) ?_; (first | omega | (simp <;> omega)); (first | omega | (simp <;> omega)))) | (refine gq_callV ?_; refine q_callV rfl (fun w' hb => r_call2 rfl rfl rfl) (fun w' hb => cmpD_spec) ?_) | (refine Pm.qp_nil ?_; intro w hb; replace S := S.grow hb; clear hb) | (refine Pm.qp_val rfl (fun w' => r_subN rfl rfl ?_ ?_) ?_; omega; omega) | (refine Pm.qp_val rfl (fun w' => ⟨rfl⟩) ?_) | (refine ql_split rfl rfl (fun h => ?_) (fun h => ?_) <;> (fail_if_success (have hh : true = true := h)) <;> (fail_if_success (have hh : false = false := h)) <;> (try simp only [decide_eq_true_eq, decide_eq_false_iff_not, Bool.not_eq_true', Bool.not_eq_false', Int.not_lt, Int.not_le] at h) <;> (try (exfalso; omega)) <;> (try (exfalso; rw [e1, e2] at h; omega; done))) | (refine WP_cond rfl (fun h => ?_) (fun h => ?_) <;> (fail_if_success (have hh : true = true := h)) <;> (fail_if_success (have hh : false = false := h)) <;> (try simp only [decide_eq_true_eq, decide_eq_false_iff_not, Bool.not_eq_true', Bool.not_eq_false', Int.not_lt, Int.not_le] at h) <;> (try (exfalso; omega)) <;> (try (exfalso; rw [e1, e2] at h; omega; done))))
        refine st_skipE rfl (r_storeElem (i := 0) (D := fGDebt) (x := nth l (g (j - 1))) S rfl rfl rfl (by rw [e2]; rfl) (one_d _) (by omega) (by omega)) ?_
        intro w S'
        replace S : St w0 w (rowD l v (fun k => if k = j then g (j - 1) else insF g j i k) N :: ex) := by
          rw [tabD_put (i := j) (by omega) (by omega)] at S'; exact S'
        clear S'
        have hl := @tabD_len l (fun k => if k = j then g (j - 1) else insF g j i k) N
        repeat' ((refine g_indexAddr ?_; (refine st_val rfl (r_indexAddr (S.rdRow (D := fGDebt) (i := 0) rfl) rfl rfl ?_ ?_) ?_; (first | omega | (simp <;> omega)); (first | omega | (simp <;> omega)))))
        refine st_skipE rfl (r_storeElem (i := 0) (D := fGDebt) (x := nth l (g i)) S rfl rfl rfl (by rw [e1]; rfl) (one_d _) (by omega) (by omega)) ?_
        intro w S'
        replace S : St w0 w (rowD l v (insF g (j - 1) i) N :: ex) := by
          rw [tabD_put (i := j - 1) (by omega) (by omega)] at S'
          refine S'.eqos (congrArg (fun o => o :: ex) (rowD_ext fun k hk => ?_))
          unfold insF
          (repeat' split) <;> first | rfl | omega | (congr 1; omega)
        clear S'
        repeat' (first | refine WP_region ?_ | refine wl_nil ?_ | refine then_normal ?_ | refine inB_normal ?_ | (refine g_move ?_; refine st_move rfl ?_) | (refine g_assign ?_; refine st_assign rfl ?_) | (refine g_b_sub ?_; (refine st_val rfl (r_subN rfl rfl ?_ ?_) ?_; (first | omega | (simp <;> omega)); (first | omega | (simp <;> omega)))))
        refine ⟨⟨_, ?_, j - 1, _, ⟨rfl, rfl, rfl, rfl, rfl, rfl, trivial⟩, S, by omega, by omega, by omega, fun k' p q => ?_, rfl⟩⟩
        · omega
        · by_cases e : k' = j - 1
          · subst e; exact decide_eq_true hc
          · exact hall k' (by omega) q
      · repeat' (first | refine WP_seq ?_ | refine WP_region ?_ | refine wl_nil ?_ | refine then_normal ?_ | refine inB_normal ?_ | refine then_exit ?_ | refine inB_here ?_ | refine WP_exit ?_ | refine WP_draw (by kernel_rfl) (by kernel_rfl) ?_ | (refine ql_nil ?_; intro w hb; replace S := S.grow hb; clear hb) | (refine g_move ?_; refine st_move rfl ?_) | (refine g_assign ?_; refine st_assign rfl ?_) | (refine g_b_add ?_; (refine st_val rfl (r_addN rfl rfl ?_ ?_) ?_; (first | omega | (simp <;> omega)); (first | omega | (simp <;> omega)))) | (refine gq_move ?_; refine q_move rfl ?_) | (refine gq_pick ?_; refine q_pickT rfl rfl ?_) | (refine gq_b_sub ?_; (refine q_val rfl (fun w' hb => r_subN rfl rfl ?_ ?_) ?_; (first | omega | (simp <;> omega)); (first | omega | (simp <;> omega)))) | (refine gq_b_lss ?_; refine q_val rfl (fun w' hb => r_lss rfl rfl) ?_) | (refine gq_b_gtr ?_; refine q_val rfl (fun w' hb => r_gtr rfl rfl) ?_) | (refine gq_indexAddr ?_; (refine q_val rfl (fun w' hb => r_indexAddr ((S.grow hb).rdRow (D := fGDebt) (i := 0) rfl) rfl rfl ?_ ?_) ?_; (first | omega | (simp <;> omega)); (first | omega | (simp <;> omega)))) | (refine gq_load ?_; (refine q_val rfl (fun w' hb => r_loadElem ((S.grow hb).rdRow (D := fGDebt) (i := 0) rfl) rfl ?_ ?_) ?_; (first | omega | (simp <;> omega)); (first | omega | (simp <;> omega)))) | (refine gq_callV ?_; refine q_callV rfl (fun w' hb => r_call2 rfl rfl rfl) (fun w' hb => cmpD_spec) ?_) | (refine ql_split rfl rfl (fun h => ?_) (fun h => ?_) <;> (fail_if_success (have hh : true = true := h)) <;> (fail_if_success (have hh : false = false := h)) <;> (try simp only [decide_eq_true_eq, decide_eq_false_iff_not, Bool.not_eq_true', Bool.not_eq_false', Int.not_lt, Int.not_le] at h) <;> (try (exfalso; omega)) <;> (try (exfalso; rw [e1, e2] at h; omega; done))) | (refine WP_cond rfl (fun h => ?_) (fun h => ?_) <;> (fail_if_success (have hh : true = true := h)) <;> (fail_if_success (have hh : false = false := h)) <;> (try simp only [decide_eq_true_eq, decide_eq_false_iff_not, Bool.not_eq_true', Bool.not_eq_false', Int.not_lt, Int.not_le] at h) <;> (try (exfalso; omega)) <;> (try (exfalso; rw [e1, e2] at h; omega; done))))
        refine ⟨⟨_, ?_, i + 1, _, _, ⟨rfl, rfl, rfl, rfl, rfl, trivial⟩, S, by omega, by omega, by omega, ins_step hsw hai hg (fun k p q => hasc k i p q hi) haj hji (fun _ => by exact decide_eq_false hc) hall, rfl, fun h => by omega⟩⟩
        omega
    · repeat' (first | refine WP_seq ?_ | refine WP_region ?_ | refine wl_nil ?_ | refine then_normal ?_ | refine inB_normal ?_ | refine then_exit ?_ | refine inB_here ?_ | refine WP_exit ?_ | refine WP_condF rfl ?_ | refine WP_draw (by kernel_rfl) (by kernel_rfl) ?_ | (refine ql_nil ?_; intro w hb; replace S := S.grow hb; clear hb) | (refine g_move ?_; refine st_move rfl ?_) | (refine g_assign ?_; refine st_assign rfl ?_) | (refine g_b_add ?_; (refine st_val rfl (r_addN rfl rfl ?_ ?_) ?_; (first | omega | (simp <;> omega)); (first | omega | (simp <;> omega)))) | (refine gq_guard ?_; refine q_off rfl ?_) | (refine gq_move ?_; refine q_move rfl ?_) | (refine gq_pick ?_; refine q_pickF rfl rfl ?_) | (refine gq_b_gtr ?_; refine q_val rfl (fun w' hb => r_gtr rfl rfl) ?_) | (refine ql_split rfl rfl (fun h => ?_) (fun h => ?_) <;> (fail_if_success (have hh : true = true := h)) <;> (fail_if_success (have hh : false = false := h)) <;> (try simp only [decide_eq_true_eq, decide_eq_false_iff_not, Bool.not_eq_true', Bool.not_eq_false', Int.not_lt, Int.not_le] at h) <;> (try (exfalso; omega))))
      refine ⟨⟨_, ?_, i + 1, _, _, ⟨rfl, rfl, rfl, rfl, rfl, trivial⟩, S, by omega, by omega, by omega, ins_step hsw hai hg (fun k p q => hasc k i p q hi) haj hji (fun h => absurd h haj') hall, rfl, fun h => by omega⟩⟩
      omega
  · repeat' (first | refine WP_seq ?_ | refine WP_region ?_ | refine wl_nil ?_ | refine then_normal ?_ | (refine g_move ?_; refine st_move rfl ?_) | (refine g_b_lss ?_; refine st_val rfl (r_lss rfl rfl) ?_))
    refine WP_cond rfl (fun h => absurd (of_decide_eq_true h) (by omega)) (fun h => ?_)
    refine WP_exit ?_
    refine then_exit ?_
    refine then_exit ?_
    refine inB_here ?_
    refine end0 rfl ⟨_, rfl, g, ?_, S⟩
    by_cases hab : a < b
    · rw [if_pos hab]
      have : i = b := by omega
      subst this; exact hg
    · rw [if_neg hab]; exact hsame (by omega)
theorem perm_id {N : Nat} {g : Nat → Int} (h : (tab g N).Perm (tab idf N)) (l : List GDebt) (hl : N = l.length) : (tabD l g N).Perm l := by
  have e : (tab idf N).map (nth l) = l := by
    apply List.ext_getElem?
    intro k
    unfold tab idf
    rw [List.map_map, List.getElem?_map]
    by_cases hk : k < N
    · rw [List.getElem?_range hk]
      have := nth_get (l := l) (i := (k : Int)) (by omega) (by omega)
      rw [Int.toNat_natCast] at this
      rw [this]; rfl
    · rw [List.getElem?_eq_none (by simp; omega), List.getElem?_eq_none (by omega)]; rfl
  have := h.map (nth l)
  rw [e] at this; exact this
/-- Debts sorted: their order is told by numbers that ascend where dues are alike. -/
structure StD (ds l : List GDebt) : Prop where
  ex : ∃ g, l = tabD ds g ds.length ∧ (tab g ds.length).Perm (tab idf ds.length) ∧ (tab g ds.length).Pairwise (RS (cD ds))
theorem StD.perm {ds l : List GDebt} (h : StD ds l) : l.Perm ds := by
  obtain ⟨g, rfl, h1, h2⟩ := h.ex
  exact perm_id h1 ds rfl
theorem StD.srt {ds l : List GDebt} (h : StD ds l) : SrtD l := by
  obtain ⟨g, rfl, h1, h2⟩ := h.ex
  unfold SrtD
  rw [List.map_map]
  refine List.pairwise_map.2 (h2.imp fun {x y} h => ?_)
  show (nth ds x).Due ≤ (nth ds y).Due
  rcases h with h | ⟨h, _⟩
  · rw [cD_iff] at h; omega
  · have : ¬ cD ds y x = true := by rw [h]; simp
    rw [cD_iff] at this; omega
theorem StD.len {ds l : List GDebt} (h : StD ds l) : l.length = ds.length := h.perm.length_eq
theorem tabD_id {l : List GDebt} : tabD l idf l.length = l := by
  apply List.ext_getElem?
  intro k
  unfold tabD tab idf
  rw [List.map_map, List.getElem?_map]
  by_cases hk : k < l.length
  · rw [List.getElem?_range hk]
    have := nth_get (l := l) (i := (k : Int)) (by omega) (by omega)
    rw [Int.toNat_natCast] at this
    rw [this]; rfl
  · rw [List.getElem?_eq_none (by simp; omega), List.getElem?_eq_none (by omega)]; rfl
set_option maxHeartbeats 1000000 in
theorem stD_run {l : List GDebt} {v : Value} {x : Int} {ex : List Ob} {w0 w : World} (S : St w0 w (rowD l v idf l.length :: ex)) (hx : x = l.length) (hN : l.length ≤ 20) :
    CallsW Tryd.prog 54 #[v, .int .i64 x, cvP] w (fun _ w' => ∃ g, (tab g l.length).Perm (tab idf l.length) ∧ (tab g l.length).Pairwise (RS (cD l)) ∧ St w0 w' (rowD l v g l.length :: ex)) := by
  subst hx
  refine CallsW.mk ?_
  refine calls_enter Tryd.func54 rfl (by intro _ h; first | exact nomatch h.1 | (obtain ⟨_, h, _⟩ := h; exact nomatch h)) Tryd.ntmps54 rfl ?_
  repeat' (first | refine WP_seq ?_ | refine WP_region ?_ | refine wl_nil ?_ | refine then_normal ?_ | refine WP_block ?_ | (refine g_move ?_; refine st_move rfl ?_) | (refine g_assign ?_; refine st_assign rfl ?_))
  refine WP_loop (fun k σ w1 => ∃ (a : Nat) (p q : Int) (g : Nat → Int), Has σ [(0, v), (1, .int .i64 (l.length : Int)), (2, cvP), (6, .int .i64 20), (7, .int .i64 p), (8, .int .i64 q)] ∧ St w0 w1 (rowD l v g l.length :: ex) ∧ p = a ∧ q = (a : Int) + 20 ∧ ((a = 0 ∧ g = idf ∧ k = 1) ∨ (a = 20 ∧ l.length = 20 ∧ Srt (cD l) idf g 0 20 ∧ k = 0))) 1 ⟨0, _, _, idf, ⟨rfl, rfl, rfl, rfl, rfl, rfl, trivial⟩, S, rfl, rfl, .inl ⟨rfl, rfl, rfl⟩⟩ ?_
  clear S
  rintro k σ w1 ⟨a, p, q, g, hs, S, rfl, rfl, hd⟩
  refine WP_has hs ?_
  have hasc : ∀ k k', 0 ≤ k → k < k' → k' < 20 → idf k < idf k' := fun k k' _ h _ => by unfold idf; omega
  by_cases hlt : a + 20 ≤ l.length
  · obtain ⟨rfl, rfl, rfl⟩ : a = 0 ∧ g = idf ∧ k = 1 := by
      rcases hd with h | h
      · exact h
      · omega
    repeat' (first | refine WP_seq ?_ | refine WP_region ?_ | refine wl_nil ?_ | refine then_normal ?_ | refine WP_skip ?_ | refine WP_block ?_ | (refine g_move ?_; refine st_move rfl ?_) | (refine g_b_leq ?_; refine st_val rfl (r_leq rfl rfl) ?_) | (refine WP_cond rfl (fun h => ?_) (fun h => ?_) <;> (fail_if_success (have hh : true = true := h)) <;> (fail_if_success (have hh : false = false := h)) <;> (try simp only [decide_eq_true_eq, decide_eq_false_iff_not, Bool.not_eq_true', Bool.not_eq_false', Int.not_lt, Int.not_le] at h) <;> (try (exfalso; omega))))
    refine st_callW rfl (r_call4 rfl rfl rfl rfl rfl) (insD_run (a := 0) (b := 20) S (by omega) (by omega) (by omega) (by omega) (by omega) hasc) ?_
    rintro u w ⟨g', hg, S'⟩
    replace S := S'; clear S'
    rw [if_pos (by omega)] at hg
    repeat' (first | refine WP_seq ?_ | refine WP_region ?_ | refine wl_nil ?_ | refine then_normal ?_ | refine inB_normal ?_ | (refine g_move ?_; refine st_move rfl ?_) | (refine g_assign ?_; refine st_assign rfl ?_) | (refine g_b_add ?_; (refine st_val rfl (r_addN rfl rfl ?_ ?_) ?_; (first | omega | (simp <;> omega)); (first | omega | (simp <;> omega)))))
    exact ⟨⟨_, by omega, 20, _, _, g', ⟨rfl, rfl, rfl, rfl, rfl, rfl, trivial⟩, S, by omega, by omega, .inr ⟨rfl, by omega, hg, rfl⟩⟩⟩
  repeat' (first | refine WP_seq ?_ | refine WP_region ?_ | refine wl_nil ?_ | refine then_normal ?_ | (refine g_move ?_; refine st_move rfl ?_) | (refine g_b_leq ?_; refine st_val rfl (r_leq rfl rfl) ?_))
  refine WP_cond rfl (fun h => absurd (of_decide_eq_true h) (by omega)) (fun h => ?_)
  refine WP_exit ?_
  refine then_exit ?_
  refine then_exit ?_
  refine inB_here ?_
  refine then_normal ?_
  have hfin : ∀ g : Nat → Int, Srt (cD l) idf g 0 l.length → (tab g l.length).Perm (tab idf l.length) ∧ (tab g l.length).Pairwise (RS (cD l)) := fun g h => by
    rw [← seg_tab, ← seg_tab]; exact ⟨h.perm, h.pw⟩
  have key : ∃ g0, (a = 0 ∧ g = idf) ∨ (a = 20 ∧ l.length = 20 ∧ Srt (cD l) idf g 0 20) := ⟨g, by
    rcases hd with h | h
    · exact .inl ⟨h.1, h.2.1⟩
    · exact .inr ⟨h.1, h.2.1, h.2.2.1⟩⟩
  clear hd
  obtain ⟨_, key⟩ := key
  repeat' (first | refine WP_seq ?_ | refine WP_region ?_ | (refine g_move ?_; refine st_move rfl ?_))
  refine st_callW rfl (r_call4 rfl rfl rfl rfl rfl) (insD_run (a := a) (b := l.length) S (by omega) (by omega) (by omega) (by omega) (by omega) (fun k k' h1 h2 h3 => by
    rcases key with ⟨_, rfl⟩ | ⟨rfl, h, _⟩
    · unfold idf; omega
    · omega)) ?_
  rintro u w ⟨g', hg, S'⟩
  replace S := S'; clear S'
  have hres : Srt (cD l) idf g' 0 l.length := by
    rcases key with ⟨rfl, rfl⟩ | ⟨rfl, h20, hsr⟩
    · by_cases h0 : 0 < l.length
      · rw [if_pos h0] at hg; exact hg
      · rw [if_neg h0] at hg; subst hg
        refine Srt.same ?_
        rw [seg_nil (by omega)]; exact List.Pairwise.nil
    · rw [if_neg (by omega)] at hg; subst hg
      rw [h20]; exact hsr
  repeat' (first | refine wl_nil ?_ | refine then_normal ?_ | refine WP_block ?_)
  refine WP_loop (fun k σ w1 => Has σ [(0, v), (1, .int .i64 (l.length : Int)), (2, cvP), (6, .int .i64 20)] ∧ St w0 w1 (rowD l v g' l.length :: ex) ∧ k = 0) 0 ⟨⟨rfl, rfl, rfl, rfl, trivial⟩, S, rfl⟩ ?_
  clear S hs
  rintro k σ w1 ⟨hs, S, hk⟩
  refine WP_has hs ?_
  repeat' (first | refine WP_seq ?_ | refine WP_region ?_ | refine wl_nil ?_ | refine then_normal ?_ | (refine g_move ?_; refine st_move rfl ?_) | (refine g_b_lss ?_; refine st_val rfl (r_lss rfl rfl) ?_))
  refine WP_cond rfl (fun h => absurd (of_decide_eq_true h) (by omega)) (fun h => ?_)
  refine WP_exit ?_
  refine then_exit ?_
  refine then_exit ?_
  refine inB_here ?_
  exact end0 rfl ⟨_, rfl, g', (hfin g' hres).1, (hfin g' hres).2, S⟩
/-- Debts sorted. -/
theorem sortD_run {l : List GDebt} {v : Value} {ex : List Ob} {w0 w : World} (S : St w0 w (rowOb fGDebt 33 v l :: ex)) (hN : l.length ≤ 20) :
    CallsW Tryd.prog 37 #[v, cvP] w (fun _ w' => ∃ l', StD l l' ∧ St w0 w' (rowOb fGDebt 33 v l' :: ex)) := by
  refine CallsW.mk ?_
  have S0 : St w0 w (rowD l v idf l.length :: ex) := by unfold rowD; rw [tabD_id]; exact S
  obtain ⟨A, c, hz⟩ := (S.rdRow (D := fGDebt) (i := 0) rfl).len; subst hz
  clear S
  have S := S0; clear S0
  refine calls_enter Tryd.func37 rfl (by intro _ h; first | exact nomatch h.1 | (obtain ⟨_, h, _⟩ := h; exact nomatch h)) Tryd.ntmps37 rfl ?_
  repeat' (first | refine WP_region ?_ | (refine g_move ?_; refine st_move rfl ?_) | (refine g_c_len ?_; refine st_val rfl (r_lenSlice rfl) ?_))
  refine st_callW rfl (r_call3 rfl rfl rfl rfl) (stD_run S rfl hN) ?_
  rintro u w ⟨g, h1, h2, S'⟩
  refine wl_nil ?_
  exact end0 rfl ⟨_, rfl, tabD l g l.length, ⟨g, rfl, h1, h2⟩, S'⟩
end Go.Proofs.YtgdmaadikcnagaaDoor
/- The plan: debts made good, the one with the earliest due first. -/
namespace Go.Proofs.YtgdmaadikcnagaaDoor
open Go Go.Gx Go.RowKit
set_option linter.unusedVariables false
set_option linter.unusedSimpArgs false

theorem one_s : ∀ (x : GServing), ∀ u ∈ fGServing.enc x, u.oneCell' = true := by intro x u hu; simp [fGServing, GServing.enc] at hu; rcases hu with rfl | rfl | rfl <;> rfl
/-- A row of the call's own as a queue. -/
theorem st_queue {α : Type} {D : Flat α} {T : TypeId} {w0 w : World} {v : Value} {l : List α} {ex : List Ob} (S : St w0 w (rowOb D T v l :: ex)) : ∃ o, Qu D T o v l ∧ St w0 w (o :: ex) := by
  have h : w.ownsRow w0.heap.size T D.sz v l.length (fl D l) := S.ok _ (List.mem_cons_self ..)
  rcases h.2 with ⟨h1, h2⟩ | ⟨g, cap, cur, hv, hg, hh, hn, hm, hc, ht⟩
  · have : l = [] := List.length_eq_zero_iff.1 h2
    subst this; subst h1
    exact ⟨_, Qu.nil D T, S⟩
  · refine ⟨.var g T cur.toList, .inr ⟨g, 0, cap, cur.toList, hv, rfl, hm, hn, by rw [Array.length_toList, hc]; omega, by rw [List.drop_zero]; exact ht⟩, S.below, fun o ho => ?_, ?_⟩
    · rcases List.mem_cons.1 ho with rfl | ho
      · exact ⟨hg, by simpa using hh⟩
      · exact S.ok o (List.mem_cons_of_mem _ ho)
    · obtain ⟨h1, h2⟩ := List.pairwise_cons.1 S.apart
      refine List.pairwise_cons.2 ⟨fun b hb => ?_, h2⟩
      rcases h1 b hb with h | h
      · subst hv; cases h
      · subst hv; exact .inr h
/-- What a plan has come to. -/
def PlI (R : List GServing × List GDebt × Bool) (now : Int) (os : List GOpening) (q : List GDebt) (out : List GServing) (lost : Bool) : Prop :=
  R = (out ++ (planF now os q).1, (planF now os q).2.1, lost || (planF now os q).2.2)
theorem PlI.drop {R : List GServing × List GDebt × Bool} {now : Int} {o : GOpening} {os : List GOpening} {d : GDebt} {q : List GDebt} {out : List GServing} {lost : Bool} (h : PlI R now (o :: os) (d :: q) out lost) (h1 : now ≤ o.At) (h2 : 0 < o.Count) (h3 : d.Due ≤ o.At) : PlI R now (o :: os) q out true := by
  have e : serve o.At o.Count (d :: q) = ((serve o.At o.Count q).1, (serve o.At o.Count q).2.1, true) := by
    conv => lhs; unfold serve
    rw [if_neg (by omega), if_pos h3]
  unfold PlI at *
  rw [h]
  simp only [planF, serveO, if_pos h1, e, Bool.true_or, Bool.or_true]
theorem PlI.part {R : List GServing × List GDebt × Bool} {now : Int} {o : GOpening} {os : List GOpening} {d : GDebt} {q : List GDebt} {out : List GServing} {lost : Bool} (h : PlI R now (o :: os) (d :: q) out lost) (h1 : now ≤ o.At) (h2 : 0 < o.Count) (h3 : o.At < d.Due) (h4 : o.Count < d.Count) :
    PlI R now (⟨o.At, 0⟩ :: os) ({ d with Count := d.Count - o.Count } :: q) (out ++ [⟨d.ID, o.At, o.Count⟩]) lost := by
  have e : serve o.At o.Count (d :: q) = ([⟨d.ID, o.At, o.Count⟩], { d with Count := d.Count - o.Count } :: q, false) := by
    conv => lhs; unfold serve
    rw [if_neg (by omega), if_neg (by omega), if_pos h4]
  have e2 : serve o.At 0 ({ d with Count := d.Count - o.Count } :: q) = ([], { d with Count := d.Count - o.Count } :: q, false) := by
    conv => lhs; unfold serve
    rw [if_pos (by omega)]
  unfold PlI at *
  rw [h]
  simp only [planF, serveO, if_pos h1, e, e2, List.append_assoc, List.nil_append, Bool.false_or]
theorem PlI.full {R : List GServing × List GDebt × Bool} {now : Int} {o : GOpening} {os : List GOpening} {d : GDebt} {q : List GDebt} {out : List GServing} {lost : Bool} (h : PlI R now (o :: os) (d :: q) out lost) (h1 : now ≤ o.At) (h2 : 0 < o.Count) (h3 : o.At < d.Due) (h4 : d.Count ≤ o.Count) :
    PlI R now (⟨o.At, o.Count - d.Count⟩ :: os) q (out ++ [⟨d.ID, o.At, d.Count⟩]) lost := by
  have e : serve o.At o.Count (d :: q) = (⟨d.ID, o.At, d.Count⟩ :: (serve o.At (o.Count - d.Count) q).1, (serve o.At (o.Count - d.Count) q).2) := by
    conv => lhs; unfold serve
    rw [if_neg (by omega), if_neg (by omega), if_neg (by omega)]
  unfold PlI at *
  rw [h]
  simp only [planF, serveO, if_pos h1, e, List.append_assoc, List.cons_append, List.nil_append]
theorem PlI.next {R : List GServing × List GDebt × Bool} {now : Int} {o : GOpening} {os : List GOpening} {q : List GDebt} {out : List GServing} {lost : Bool} (h : PlI R now (o :: os) q out lost) (h1 : o.At < now ∨ o.Count ≤ 0 ∨ q = []) : PlI R now os q out lost := by
  have e : serveO now o q = ([], q, false) := by
    unfold serveO; split
    · rcases h1 with h1 | h1 | h1
      · omega
      · cases q with
        | nil => unfold serve; rfl
        | cons d r => unfold serve; rw [if_pos h1]
      · subst h1; unfold serve; rfl
    · rfl
  unfold PlI at *
  rw [h]
  simp only [planF, e, List.nil_append, Bool.false_or]
/-- What Plan returns. -/
structure PlanR (ds : List GDebt) (os : List GOpening) (now : Int) (w : World) (v : Value) (w' : World) : Prop where
  ex : ∃ (vo : Value) (out : List GServing) (all : Bool) (er : Int), v = .tuple #[vo, .bool all, .int .i64 er] ∧ NewRow fGServing 56 w w' vo out ∧
    (if validI ds os now = true then er = 0 ∧ out.length ≤ 1000 ∧ ∃ l, StD ds l ∧ out = (planF now os l).1 ∧ all = (!(planF now os l).2.2 && decide ((planF now os l).2.1 = [])) else er = 140 ∧ out = [] ∧ all = false)
theorem drop_nth {α : Type} [Inhabited α] {l : List α} {i : Int} (h0 : 0 ≤ i) (hi : i < l.length) : l.drop i.toNat = nth l i :: l.drop (i + 1).toNat := by
  have h := nth_get h0 hi
  obtain ⟨hl, e⟩ := List.getElem?_eq_some_iff.1 h
  rw [show (i + 1).toNat = i.toNat + 1 by omega, List.drop_eq_getElem_cons hl, e]
set_option maxHeartbeats 2000000 in
theorem plan_run {ds : List GDebt} {os : List GOpening} {now : Int} {v1 v2 : Value} {w0 : World} (hr1 : Rd fGDebt.ty w0 v1 ds) (hr2 : Rd fGOpening.ty w0 v2 os) (hl1 : ds.length ≤ 1000000) (hl2 : os.length ≤ 1000000) :
    CallsR Tryd.prog 16 #[v1, v2, .int .i64 now] w0 (PlanR ds os now w0) := by
  have S := St.start w0
  obtain ⟨A1, c1, rfl⟩ := hr1.len
  obtain ⟨A2, c2, rfl⟩ := hr2.len
  refine CallsR.mk ?_
  refine calls_enter Tryd.func16 rfl (by intro _ h; first | exact nomatch h.1 | (obtain ⟨_, h, _⟩ := h; exact nomatch h)) Tryd.ntmps16 rfl ?_
  cases hv : validI ds os now with
  | false =>
    repeat' (first | refine WP_seq ?_ | refine WP_region ?_ | refine wl_nil ?_ | refine then_normal ?_ | refine then_ret ?_ | refine WP_ret ?_ | (refine g_move ?_; refine st_move rfl ?_) | (refine g_assign ?_; refine st_assign rfl ?_) | (refine g_un ?_; refine st_val rfl (r_not rfl) ?_) | (refine g_callV ?_; (refine st_callV rfl (r_call3 rfl rfl rfl rfl) (validI_spec (hr1.mono S.below) (hr2.mono S.below) (by omega) (by omega)) ?_; intro w hb; replace S := S.grow hb; clear hb)) | (refine WP_cond rfl (fun h => ?_) (fun h => ?_) <;> (fail_if_success (have hh : true = true := h)) <;> (fail_if_success (have hh : false = false := h)) <;> (try simp only [decide_eq_true_eq, decide_eq_false_iff_not, Bool.not_eq_true', Bool.not_eq_false', Int.not_lt, Int.not_le] at h) <;> (try (exfalso; omega)) <;> (try (exfalso; rw [hv] at h; cases h; done))))
    exact end3 rfl rfl rfl rfl ⟨_, rfl, S.below, ⟨_, [], false, 140, rfl, NewRow.nil _ _ _ _, by rw [hv]; exact ⟨rfl, rfl, rfl⟩⟩⟩
  | true =>
  obtain ⟨b1, b2, b3, b4, b5, b6⟩ := validI_ok hv
  repeat' (first | refine WP_seq ?_ | refine WP_region ?_ | refine wl_nil ?_ | refine then_normal ?_ | refine WP_skip ?_ | (refine g_move ?_; refine st_move rfl ?_) | (refine g_assign ?_; refine st_assign rfl ?_) | (refine g_un ?_; refine st_val rfl (r_not rfl) ?_) | (refine g_callV ?_; (refine st_callV rfl (r_call3 rfl rfl rfl rfl) (validI_spec (hr1.mono S.below) (hr2.mono S.below) (by omega) (by omega)) ?_; intro w hb; replace S := S.grow hb; clear hb)) | (refine st_callR rfl (r_call1 rfl rfl) (cloneD_run (hr1.mono S.below) hl1) ?_; rintro v w hb hrow; replace S := S.new hb hrow; clear hb hrow) | (refine WP_cond rfl (fun h => ?_) (fun h => ?_) <;> (fail_if_success (have hh : true = true := h)) <;> (fail_if_success (have hh : false = false := h)) <;> (try simp only [decide_eq_true_eq, decide_eq_false_iff_not, Bool.not_eq_true', Bool.not_eq_false', Int.not_lt, Int.not_le] at h) <;> (try (exfalso; omega)) <;> (try (exfalso; rw [hv] at h; cases h; done))))
  replace S := S.front
  refine st_callW rfl (r_call2 rfl rfl rfl) (sortD_run (v := v) S b1) ?_
  rintro _ w ⟨l, hl, S'⟩
  replace S := S'; clear S'
  obtain ⟨o0, hq0, S'⟩ := st_queue S
  replace S := S'; clear S'
  have hln := hl.len
  have hpl : ∀ d ∈ l, 1 ≤ d.Count ∧ d.Count ≤ 50 := fun d hd => by
    obtain ⟨j, hj⟩ := List.getElem?_of_mem (hl.perm.mem_iff.1 hd)
    have hjl := (List.getElem?_eq_some_iff.1 hj).1
    have h2 := nth_get (l := ds) (i := (j : Int)) (by omega) (by omega)
    rw [Int.toNat_natCast, hj] at h2
    have h3 := (okDa_iff (b5 j (by omega) (by omega))).1 rfl
    rw [Option.some.inj h2]; omega
  repeat' (first | refine WP_seq ?_ | refine WP_region ?_ | refine wl_nil ?_ | refine then_normal ?_ | refine WP_block ?_ | (refine g_move ?_; refine st_move rfl ?_) | (refine g_assign ?_; refine st_assign rfl ?_) | (refine g_c_len ?_; refine st_val rfl (r_lenSlice rfl) ?_))
  refine WP_loop (fun k σ w1 => ∃ (i : Int) (vq vo : Value) (lost : Bool) (o : Ob) (q : List GDebt) (out : List GServing), Has σ [(2, .int .i64 now), (9, vq), (10, vo), (11, .bool lost), (25, .slice A2 os.length c2), (26, .int .i64 os.length), (27, .int .i64 i)] ∧ St w0 w1 [o, rowOb fGServing 56 vo out] ∧ Qu fGDebt 33 o vq q ∧
    PlI (planF now os l) now (os.drop i.toNat) q out lost ∧ (∀ d ∈ q, 1 ≤ d.Count ∧ d.Count ≤ 50) ∧ q.length ≤ 20 ∧ (out.length : Int) ≤ 20 * i ∧ 0 ≤ i ∧ i ≤ os.length ∧ k = os.length - i.toNat) os.length ⟨0, _, _, false, o0, l, [], ⟨rfl, rfl, rfl, rfl, rfl, rfl, rfl, trivial⟩, St.nilRow fGServing _ S, hq0, by unfold PlI; simp, hpl, by omega, by simp, by omega, by omega, by omega⟩ ?_
  clear S hq0
  rintro k σ w1 ⟨i, vq, vo, lost, o, q, out, hs, S, hq, hP, hqc, hql, hol, hi0, hi1, rfl⟩
  refine WP_has hs ?_
  obtain ⟨A, c, rfl⟩ := hq.len
  by_cases hi : i < os.length
  · rw [drop_nth hi0 hi] at hP
    have hoa := (okOa_iff (b6 i hi0 hi)).1 rfl
    have hlo := okO_high hi0 fun j a b => b6 j a (by omega)
    repeat' (first | refine WP_seq ?_ | refine WP_region ?_ | refine wl_nil ?_ | refine then_normal ?_ | refine WP_skip ?_ | refine WP_block ?_ | (refine g_b_lss ?_; refine st_val rfl (r_lss rfl rfl) ?_) | (refine g_indexAddr ?_; (refine st_val rfl (r_indexAddr (hr2.mono S.below) rfl rfl ?_ ?_) ?_; (first | omega | (simp <;> omega)); (first | omega | (simp <;> omega)))) | (refine g_load ?_; (refine st_val rfl (r_loadElem (hr2.mono S.below) rfl ?_ ?_) ?_; (first | omega | (simp <;> omega)); (first | omega | (simp <;> omega)))) | (refine WP_cond rfl (fun h => ?_) (fun h => ?_) <;> (fail_if_success (have hh : true = true := h)) <;> (fail_if_success (have hh : false = false := h)) <;> (try simp only [decide_eq_true_eq, decide_eq_false_iff_not, Bool.not_eq_true', Bool.not_eq_false', Int.not_lt, Int.not_le] at h) <;> (try (exfalso; omega))))
    refine g_alloc ?_
    refine st_valE rfl (r_alloc S) ?_
    rintro _ w ⟨b, rfl, -, S'⟩; replace S := S'; clear S'
    repeat' (first | refine wl_nil ?_ | refine then_normal ?_ | refine WP_block ?_ | (refine g_store ?_; first | (refine st_skipE rfl (r_storeVar (i := 0) S rfl rfl rfl rfl (of_decide_eq_true rfl) (of_decide_eq_true rfl)) ?_; intro w S'; replace S := S'; clear S') | (refine st_skipE rfl (r_storeVar (i := 1) S rfl rfl rfl rfl (of_decide_eq_true rfl) (of_decide_eq_true rfl)) ?_; intro w S'; replace S := S'; clear S') | (refine st_skipE rfl (r_storeVar (i := 2) S rfl rfl rfl rfl (of_decide_eq_true rfl) (of_decide_eq_true rfl)) ?_; intro w S'; replace S := S'; clear S')))
    refine WP_loop (fun k σ w1 => ∃ (m : Int) (vq vo : Value) (lost : Bool) (o : Ob) (q : List GDebt) (out : List GServing), Has σ [(2, .int .i64 now), (9, vq), (10, vo), (11, .bool lost), (13, .pointer (some ⟨b, 0, none⟩)), (25, .slice A2 os.length c2), (26, .int .i64 os.length), (27, .int .i64 i)] ∧ St w0 w1 [o, rowOb fGServing 56 vo out, .var b 52 (GOpening.mk (nth os i).At m).enc] ∧ Qu fGDebt 33 o vq q ∧
      PlI (planF now os l) now (GOpening.mk (nth os i).At m :: os.drop (i + 1).toNat) q out lost ∧ (∀ d ∈ q, 1 ≤ d.Count ∧ d.Count ≤ 50) ∧ q.length ≤ 20 ∧ (out.length : Int) + m ≤ 20 * i + 20 ∧ 0 ≤ m ∧ m ≤ 20 ∧ k = q.length + m.toNat) (q.length + (nth os i).Count.toNat) ⟨(nth os i).Count, _, _, lost, o, q, out, ⟨rfl, rfl, rfl, rfl, rfl, rfl, rfl, rfl, trivial⟩, S, hq, hP, hqc, hql, by omega, by omega, by omega, rfl⟩ ?_
    clear S hq hP hqc hql hol hs vo lost o q out A c
    rintro k σ w1 ⟨m, vq, vo, lost, o, q, out, hs, S, hq, hP, hqc, hql, hol, hm0, hm1, rfl⟩
    refine WP_has hs ?_
    obtain ⟨A, c, rfl⟩ := hq.len
    by_cases hgo : now ≤ (nth os i).At ∧ 0 < m ∧ q ≠ []
    · obtain ⟨hno, hmp, hne⟩ := hgo
      obtain ⟨d, q', rfl⟩ := List.exists_cons_of_ne_nil hne
      have hd := hqc d (List.mem_cons_self ..)
      have hqc' : ∀ x ∈ q', 1 ≤ x.Count ∧ x.Count ≤ 50 := fun x hx => hqc x (List.mem_cons_of_mem _ hx)
      have hlen : (0 : Int) < ((d :: q').length : Int) := by rw [List.length_cons]; omega
      have hn0 : nth (d :: q') 0 = d := rfl
      have hd' : 1 ≤ (nth (d :: q') 0).Count ∧ (nth (d :: q') 0).Count ≤ 50 := hd
      have hql' : q'.length ≤ 20 := by rw [List.length_cons] at hql; omega
      by_cases hdue : d.Due ≤ (nth os i).At
      · repeat' (first | refine WP_seq ?_ | refine WP_region ?_ | refine wl_nil ?_ | refine then_normal ?_ | refine WP_skip ?_ | refine WP_block ?_ | refine WP_draw (by kernel_rfl) (by kernel_rfl) ?_ | (refine ql_nil ?_; intro w hb; replace S := S.grow hb; clear hb) | (refine g_move ?_; refine st_move rfl ?_) | (refine g_assign ?_; refine st_assign rfl ?_) | (refine g_pick ?_; refine st_pickT rfl rfl ?_) | (refine g_b_gtr ?_; refine st_val rfl (r_gtr rfl rfl) ?_) | (refine g_b_geq ?_; refine st_val rfl (r_geq rfl rfl) ?_) | (refine g_c_len ?_; refine st_val rfl (r_lenSlice rfl) ?_) | (refine g_fieldAddr ?_; refine st_val rfl (r_fieldAddrL rfl) ?_) | (refine g_indexAddr ?_; (refine st_val rfl (r_indexAddr (hq.rd S (i := 0) rfl) rfl rfl ?_ ?_) ?_; (first | omega | (simp <;> omega)); (first | omega | (simp <;> omega)))) | (refine g_load ?_; refine st_val rfl (r_loadVar (i := 2) S rfl rfl rfl) ?_) | (refine gq_move ?_; refine q_move rfl ?_) | (refine gq_b_leq ?_; refine q_val rfl (fun w' hb => r_leq rfl rfl) ?_) | (refine gq_nilCheck ?_; refine q_val rfl (fun w' hb => r_nilCheck rfl) ?_) | (refine gq_fieldAddr ?_; first | refine q_val rfl (fun w' hb => r_fieldAddrL rfl) ?_ | refine q_val rfl (fun w' hb => r_fieldAddr rfl) ?_) | (refine gq_load ?_; first | (refine q_val rfl (fun w' hb => r_loadElemF (hq.rd (S.grow hb) (i := 0) rfl) rfl ?_ ?_ rfl) ?_; (first | omega | (simp <;> omega)); (first | omega | (simp <;> omega))) | refine q_val rfl (fun w' hb => r_loadVar (i := 2) (S.grow hb) rfl rfl rfl) ?_) | (refine wl_split rfl rfl (fun h => ?_) (fun h => ?_) <;> (fail_if_success (have hh : true = true := h)) <;> (fail_if_success (have hh : false = false := h)) <;> (try simp only [decide_eq_true_eq, decide_eq_false_iff_not, Bool.not_eq_true', Bool.not_eq_false', Int.not_lt, Int.not_le] at h) <;> (try (exfalso; omega)) <;> (try (exfalso; rw [hn0] at h; omega; done))) | (refine WP_cond rfl (fun h => ?_) (fun h => ?_) <;> (fail_if_success (have hh : true = true := h)) <;> (fail_if_success (have hh : false = false := h)) <;> (try simp only [decide_eq_true_eq, decide_eq_false_iff_not, Bool.not_eq_true', Bool.not_eq_false', Int.not_lt, Int.not_le] at h) <;> (try (exfalso; omega)) <;> (try (exfalso; rw [hn0] at h; omega; done))))
        refine st_valE rfl (r_sliceQ hq S (i := 0) rfl rfl rfl) ?_
        rintro v' w ⟨rfl, hq2⟩
        repeat' (first | refine wl_nil ?_ | refine then_normal ?_ | refine then_exit ?_ | refine inB_here ?_ | refine WP_exit ?_ | (refine g_assign ?_; refine st_assign rfl ?_))
        exact ⟨⟨_, by rw [List.length_cons]; omega, m, _, _, true, _, q', out, ⟨rfl, rfl, rfl, rfl, rfl, rfl, rfl, rfl, trivial⟩, S, hq2, hP.drop hno hmp hdue, hqc', hql', hol, hm0, hm1, rfl⟩⟩
      · repeat' (first | refine WP_seq ?_ | refine WP_region ?_ | refine wl_nil ?_ | refine then_normal ?_ | refine WP_skip ?_ | refine WP_block ?_ | refine WP_drawTail 9 (by kernel_rfl) (by decide +kernel) ?_ | refine WP_draw (by kernel_rfl) (by kernel_rfl) ?_ | (refine ql_nil ?_; intro w hb; replace S := S.grow hb; clear hb) | (refine g_move ?_; refine st_move rfl ?_) | (refine g_assign ?_; refine st_assign rfl ?_) | (refine g_pick ?_; refine st_pickT rfl rfl ?_) | (refine g_b_gtr ?_; refine st_val rfl (r_gtr rfl rfl) ?_) | (refine g_b_geq ?_; refine st_val rfl (r_geq rfl rfl) ?_) | (refine g_c_len ?_; refine st_val rfl (r_lenSlice rfl) ?_) | (refine g_fieldAddr ?_; refine st_val rfl (r_fieldAddrL rfl) ?_) | (refine g_indexAddr ?_; (refine st_val rfl (r_indexAddr (hq.rd S (i := 0) rfl) rfl rfl ?_ ?_) ?_; (first | omega | (simp <;> omega)); (first | omega | (simp <;> omega)))) | (refine g_load ?_; refine st_val rfl (r_loadVar (i := 2) S rfl rfl rfl) ?_) | (refine gq_move ?_; refine q_move rfl ?_) | (refine gq_assign ?_; refine q_assign rfl ?_) | (refine gq_b_leq ?_; refine q_val rfl (fun w' hb => r_leq rfl rfl) ?_) | (refine gq_build ?_; refine q_val rfl (fun w' hb => bd56_0_1_2 rfl rfl rfl) ?_) | (refine gq_nilCheck ?_; refine q_val rfl (fun w' hb => r_nilCheck rfl) ?_) | (refine gq_c_min ?_; refine q_val rfl (fun w' hb => r_min2 rfl rfl) ?_) | (refine gq_fieldAddr ?_; first | refine q_val rfl (fun w' hb => r_fieldAddrL rfl) ?_ | refine q_val rfl (fun w' hb => r_fieldAddr rfl) ?_) | (refine gq_load ?_; first | (refine q_val rfl (fun w' hb => r_loadElem1 (hq.rd (S.grow hb) (i := 0) rfl) rfl ?_ ?_ rfl) ?_; (first | omega | (simp <;> omega)); (first | omega | (simp <;> omega))) | (refine q_val rfl (fun w' hb => r_loadElemF (hq.rd (S.grow hb) (i := 0) rfl) rfl ?_ ?_ rfl) ?_; (first | omega | (simp <;> omega)); (first | omega | (simp <;> omega))) | refine q_val rfl (fun w' hb => r_loadVar (i := 2) (S.grow hb) rfl rfl rfl) ?_) | (refine wl_split rfl rfl (fun h => ?_) (fun h => ?_) <;> (fail_if_success (have hh : true = true := h)) <;> (fail_if_success (have hh : false = false := h)) <;> (try simp only [decide_eq_true_eq, decide_eq_false_iff_not, Bool.not_eq_true', Bool.not_eq_false', Int.not_lt, Int.not_le] at h) <;> (try (exfalso; omega)) <;> (try (exfalso; rw [hn0] at h; omega; done))) | (refine WP_cond rfl (fun h => ?_) (fun h => ?_) <;> (fail_if_success (have hh : true = true := h)) <;> (fail_if_success (have hh : false = false := h)) <;> (try simp only [decide_eq_true_eq, decide_eq_false_iff_not, Bool.not_eq_true', Bool.not_eq_false', Int.not_lt, Int.not_le] at h) <;> (try (exfalso; omega)) <;> (try (exfalso; rw [hn0] at h; omega; done))))
        refine st_valE rfl (r_litF (D := fGServing) [GServing.mk d.ID (nth os i).At (min m d.Count)] (fun y => .agg y.enc.toArray) S rfl rfl (fun _ => rfl) rfl (by decide) (by decide)) ?_
        rintro _ w ⟨bl, rfl, -, hcl, S'⟩; replace S := S'; clear S'
        refine st_valE rfl (r_append1 (D := fGServing) (i := 1) (b := bl) (x := GServing.mk d.ID (nth os i).At (min m d.Count)) S rfl rfl rfl (fl_one hcl) rfl (by decide) (one_s _) (by omega) (by omega)) ?_
        rintro vo' w ⟨-, S'⟩; replace S := S'; clear S' hcl
        repeat' (first | refine WP_seq ?_ | refine WP_region ?_ | refine wl_nil ?_ | refine then_normal ?_ | (refine g_move ?_; refine st_move rfl ?_) | (refine g_assign ?_; refine st_assign rfl ?_) | (refine g_b_sub ?_; (refine st_val rfl (r_subN rfl rfl ?_ ?_) ?_; (first | omega | (simp <;> omega)); (first | omega | (simp <;> omega)))) | (refine g_nilCheck ?_; refine st_val rfl (r_nilCheck rfl) ?_) | (refine g_fieldAddr ?_; first | refine st_val rfl (r_fieldAddrL rfl) ?_ | refine st_val rfl (r_fieldAddr rfl) ?_) | (refine g_load ?_; first | (refine st_val rfl (r_loadElemF (hq.rd S (i := 0) rfl) rfl ?_ ?_ rfl) ?_; (first | omega | (simp <;> omega)); (first | omega | (simp <;> omega))) | refine st_val rfl (r_loadVar (i := 2) S rfl rfl rfl) ?_) | (refine g_store ?_; first | (refine st_skipE rfl (r_storeVar (i := 0) S rfl rfl rfl rfl (of_decide_eq_true rfl) (of_decide_eq_true rfl)) ?_; intro w S'; replace S := S'; clear S') | (refine st_skipE rfl (r_storeVar (i := 1) S rfl rfl rfl rfl (of_decide_eq_true rfl) (of_decide_eq_true rfl)) ?_; intro w S'; replace S := S'; clear S') | (refine st_skipE rfl (r_storeVar (i := 2) S rfl rfl rfl rfl (of_decide_eq_true rfl) (of_decide_eq_true rfl)) ?_; intro w S'; replace S := S'; clear S')))
        refine g_store ?_
        refine st_skipE rfl (r_storeQ (D := fGDebt) (x' := { d with Count := d.Count - min m d.Count }) (u := .int .i64 (d.Count - min m d.Count)) (off := 2) (sz := 1) S (i := 0) rfl hq rfl rfl rfl rfl (by decide) (fun c hc => by cases List.mem_singleton.1 hc; rfl)) ?_
        rintro w ⟨o', S', hq'⟩
        replace S : St w0 w [o', rowOb fGServing 56 vo' (out ++ [GServing.mk d.ID (nth os i).At (min m d.Count)]), .var b 52 (GOpening.mk (nth os i).At (m - min m d.Count)).enc] := S'.keep [true, true, true]
        clear S'
        have hn1 : nth ({ d with Count := d.Count - min m d.Count } :: q') 0 = { d with Count := d.Count - min m d.Count } := rfl
        have hd2 : -50 ≤ (nth ({ d with Count := d.Count - min m d.Count } :: q') 0).Count ∧ (nth ({ d with Count := d.Count - min m d.Count } :: q') 0).Count ≤ 50 := by rw [hn1]; show -50 ≤ d.Count - min m d.Count ∧ d.Count - min m d.Count ≤ 50; omega
        by_cases hful : d.Count ≤ m
        · have hmn : min m d.Count = d.Count := by omega
          repeat' (first | refine WP_seq ?_ | refine WP_region ?_ | refine wl_nil ?_ | refine then_normal ?_ | (refine g_move ?_; refine st_move rfl ?_) | (refine g_b_eql ?_; refine st_val rfl (r_eql rfl rfl) ?_) | (refine g_nilCheck ?_; refine st_val rfl (r_nilCheck rfl) ?_) | (refine g_fieldAddr ?_; refine st_val rfl (r_fieldAddr rfl) ?_) | (refine g_load ?_; (refine st_val rfl (r_loadElemF (hq'.rd S (i := 0) rfl) rfl ?_ ?_ rfl) ?_; (first | omega | (simp <;> omega)); (first | omega | (simp <;> omega)))) | (refine WP_cond rfl (fun h => ?_) (fun h => ?_) <;> (fail_if_success (have hh : true = true := h)) <;> (fail_if_success (have hh : false = false := h)) <;> (try simp only [decide_eq_true_eq, decide_eq_false_iff_not, Bool.not_eq_true', Bool.not_eq_false', Int.not_lt, Int.not_le] at h) <;> (try (exfalso; omega)) <;> (try (exfalso; rw [hn1] at h; simp at h; omega; done))))
          refine st_valE rfl (r_sliceQ hq' S (i := 0) rfl rfl rfl) ?_
          rintro v' w ⟨rfl, hq2⟩
          repeat' (first | refine wl_nil ?_ | refine then_normal ?_ | refine inB_normal ?_ | (refine g_assign ?_; refine st_assign rfl ?_))
          refine ⟨⟨_, ?_, m - d.Count, _, vo', lost, _, q', out ++ [GServing.mk d.ID (nth os i).At d.Count], ⟨rfl, rfl, rfl, rfl, rfl, rfl, rfl, rfl, trivial⟩, ?_, hq2, hP.full hno hmp (by show (nth os i).At < d.Due; omega) hful, hqc', hql', ?_, by omega, by omega, rfl⟩⟩
          · rw [List.length_cons]; omega
          · rw [hmn] at S; exact S
          · rw [List.length_append]; simp; omega
        · have hmn : min m d.Count = m := by omega
          repeat' (first | refine WP_seq ?_ | refine WP_region ?_ | refine wl_nil ?_ | refine then_normal ?_ | refine inB_normal ?_ | refine WP_skip ?_ | (refine g_move ?_; refine st_move rfl ?_) | (refine g_b_eql ?_; refine st_val rfl (r_eql rfl rfl) ?_) | (refine g_nilCheck ?_; refine st_val rfl (r_nilCheck rfl) ?_) | (refine g_fieldAddr ?_; refine st_val rfl (r_fieldAddr rfl) ?_) | (refine g_load ?_; (refine st_val rfl (r_loadElemF (hq'.rd S (i := 0) rfl) rfl ?_ ?_ rfl) ?_; (first | omega | (simp <;> omega)); (first | omega | (simp <;> omega)))) | (refine WP_cond rfl (fun h => ?_) (fun h => ?_) <;> (fail_if_success (have hh : true = true := h)) <;> (fail_if_success (have hh : false = false := h)) <;> (try simp only [decide_eq_true_eq, decide_eq_false_iff_not, Bool.not_eq_true', Bool.not_eq_false', Int.not_lt, Int.not_le] at h) <;> (try (exfalso; omega)) <;> (try (exfalso; rw [hn1] at h; simp at h; omega; done))))
          refine ⟨⟨_, ?_, 0, _, vo', lost, _, { d with Count := d.Count - m } :: q', out ++ [GServing.mk d.ID (nth os i).At m], ⟨rfl, rfl, rfl, rfl, rfl, rfl, rfl, rfl, trivial⟩, ?_, by rw [hmn] at hq'; exact hq', hP.part hno hmp (by show (nth os i).At < d.Due; omega) (by show m < d.Count; omega), ?_, by rw [List.length_cons]; omega, ?_, by omega, by omega, rfl⟩⟩
          · rw [List.length_cons, List.length_cons]; omega
          · rw [hmn, Int.sub_self] at S; exact S
          · intro x hx
            rcases List.mem_cons.1 hx with rfl | hx
            · show 1 ≤ d.Count - m ∧ d.Count - m ≤ 50; omega
            · exact hqc' x hx
          · rw [List.length_append]; simp; omega
    · have hend : (nth os i).At < now ∨ m ≤ 0 ∨ q = [] := by
        by_cases h1 : now ≤ (nth os i).At
        · by_cases h2 : 0 < m
          · refine .inr (.inr ?_)
            by_cases h3 : q = []
            · exact h3
            · exact absurd ⟨h1, h2, h3⟩ hgo
          · exact .inr (.inl (by omega))
        · exact .inl (by omega)
      have hP := hP.next hend
      have hq0 : q.length = 0 → q = [] := List.length_eq_zero_iff.1
      repeat' (first | refine WP_seq ?_ | refine WP_region ?_ | refine wl_nil ?_ | refine then_normal ?_ | refine inB_normal ?_ | refine then_exit ?_ | refine inB_here ?_ | refine WP_exit ?_ | refine WP_condF rfl ?_ | (refine g_guard ?_; refine st_off rfl ?_) | (refine g_move ?_; refine st_move rfl ?_) | (refine g_pick ?_; first | refine st_pickT rfl rfl ?_ | refine st_pickF rfl rfl ?_) | (refine g_b_add ?_; (refine st_val rfl (r_addN rfl rfl ?_ ?_) ?_; (first | omega | (simp <;> omega)); (first | omega | (simp <;> omega)))) | (refine g_b_gtr ?_; refine st_val rfl (r_gtr rfl rfl) ?_) | (refine g_b_geq ?_; refine st_val rfl (r_geq rfl rfl) ?_) | (refine g_c_len ?_; refine st_val rfl (r_lenSlice rfl) ?_) | (refine g_fieldAddr ?_; refine st_val rfl (r_fieldAddrL rfl) ?_) | (refine g_load ?_; refine st_val rfl (r_loadVar (i := 2) S rfl rfl rfl) ?_) | (refine wl_split rfl rfl (fun h => ?_) (fun h => ?_) <;> (fail_if_success (have hh : true = true := h)) <;> (fail_if_success (have hh : false = false := h)) <;> (try simp only [decide_eq_true_eq, decide_eq_false_iff_not, Bool.not_eq_true', Bool.not_eq_false', Int.not_lt, Int.not_le] at h) <;> (try (exfalso; omega)) <;> (try (exfalso; (refine hgo ⟨by omega, by omega, fun e => ?_⟩; rw [e] at h; simp at h); done))) | (refine WP_cond rfl (fun h => ?_) (fun h => ?_) <;> (fail_if_success (have hh : true = true := h)) <;> (fail_if_success (have hh : false = false := h)) <;> (try simp only [decide_eq_true_eq, decide_eq_false_iff_not, Bool.not_eq_true', Bool.not_eq_false', Int.not_lt, Int.not_le] at h) <;> (try (exfalso; omega)) <;> (try (exfalso; (refine hgo ⟨by omega, by omega, fun e => ?_⟩; rw [e] at h; simp at h); done))))
      all_goals
        refine ⟨⟨_, ?_, i + 1, _, vo, lost, o, q, out, ⟨rfl, rfl, rfl, rfl, rfl, rfl, rfl, trivial⟩, S.keep [true, true], hq, hP, hqc, hql, by omega, by omega, by omega, rfl⟩⟩
        omega
  · have hi' : i.toNat = os.length := by omega
    rw [hi', List.drop_length] at hP
    have hP : planF now os l = (out, q, lost) := by
      have := hP
      unfold PlI at this
      simp only [planF, List.append_nil, Bool.or_false] at this
      exact this
    repeat' (first | refine WP_seq ?_ | refine WP_region ?_ | refine wl_nil ?_ | refine then_normal ?_ | refine then_exit ?_ | refine inB_here ?_ | refine WP_ret ?_ | refine WP_exit ?_ | (refine g_guard ?_; refine st_off rfl ?_) | (refine g_move ?_; refine st_move rfl ?_) | (refine g_assign ?_; refine st_assign rfl ?_) | (refine g_pick ?_; first | refine st_pickT rfl rfl ?_ | refine st_pickF rfl rfl ?_) | (refine g_b_eql ?_; refine st_val rfl (r_eql rfl rfl) ?_) | (refine g_b_lss ?_; refine st_val rfl (r_lss rfl rfl) ?_) | (refine g_un ?_; refine st_val rfl (r_not rfl) ?_) | (refine g_c_len ?_; refine st_val rfl (r_lenSlice rfl) ?_) | (refine wl_split rfl rfl (fun h => ?_) (fun h => ?_) <;> (fail_if_success (have hh : true = true := h)) <;> (fail_if_success (have hh : false = false := h)) <;> (try simp only [decide_eq_true_eq, decide_eq_false_iff_not, Bool.not_eq_true', Bool.not_eq_false', Int.not_lt, Int.not_le] at h) <;> (try (exfalso; omega))) | (refine WP_cond rfl (fun h => ?_) (fun h => ?_) <;> (fail_if_success (have hh : true = true := h)) <;> (fail_if_success (have hh : false = false := h)) <;> (try simp only [decide_eq_true_eq, decide_eq_false_iff_not, Bool.not_eq_true', Bool.not_eq_false', Int.not_lt, Int.not_le] at h) <;> (try (exfalso; omega))))
    all_goals
      refine end3 rfl rfl rfl rfl ⟨_, rfl, S.below, ⟨_, out, _, 0, rfl, S.row (i := 1) rfl, ?_⟩⟩
      rw [hv]
      refine ⟨rfl, by omega, l, hl, by rw [hP], ?_⟩
      rw [hP]
      cases hlo : lost with
      | true => simp [hlo] at *
      | false =>
        cases q with
        | nil => simp [hlo] at *
        | cons a r => simp [hlo] at *; try omega
end Go.Proofs.YtgdmaadikcnagaaDoor
/- slices.SortFunc at debts: the kit's contract. -/
namespace Go.Proofs
open Go.Shelf
def YtgdmaadikcnagaaDoor.sortDebt_ren : Go.Shelf.Ren := ⟨fun | 6 => 40 | 15 => 57 | 14 => 56 | 28 => 77 | 29 => 78 | 20 => 68 | 21 => 70 | 22 => 71 | 23 => 72 | 24 => 73 | 25 => 74 | 26 => 75 | 27 => 76 | 46 => 94 | 47 => 95 | 48 => 96 | 49 => 97 | 50 => 98 | 57 => 107 | n => n, fun | 22 => 26 | 24 => 33 | 25 => 103 | 3 => 3 | 39 => 127 | 0 => 0 | 53 => 151 | 55 => 153 | 4 => 4 | 46 => 145 | 45 => 144 | 50 => 48 | 5 => 5 | 9 => 9 | 66 => 167 | 70 => 171 | 76 => 179 | 77 => 180 | n => n, fun | n => n⟩
theorem YtgdmaadikcnagaaDoor.sortDebt : Go.Proofs.SlLaysF0.n6 Tryd.prog YtgdmaadikcnagaaDoor.sortDebt_ren := {
  mixed := by kernel_rfl,
  f6 := ⟨Tryd.f40.name, by decide, Tryd.func40.trans (congrArg some (by kernel_rfl))⟩,
  f14 := ⟨Tryd.f56.name, by decide, Tryd.func56.trans (congrArg some (by kernel_rfl))⟩,
  f15 := Tryd.func57.trans (congrArg some (by kernel_rfl)),
  f20 := ⟨Tryd.f68.name, by decide, Tryd.func68.trans (congrArg some (by kernel_rfl))⟩,
  f21 := ⟨Tryd.f70.name, by decide, Tryd.func70.trans (congrArg some (by kernel_rfl))⟩,
  f22 := ⟨Tryd.f71.name, by decide, Tryd.func71.trans (congrArg some (by kernel_rfl))⟩,
  f23 := ⟨Tryd.f72.name, by decide, Tryd.func72.trans (congrArg some (by kernel_rfl))⟩,
  f24 := ⟨Tryd.f73.name, by decide, Tryd.func73.trans (congrArg some (by kernel_rfl))⟩,
  f25 := ⟨Tryd.f74.name, by decide, Tryd.func74.trans (congrArg some (by kernel_rfl))⟩,
  f26 := ⟨Tryd.f75.name, by decide, Tryd.func75.trans (congrArg some (by kernel_rfl))⟩,
  f27 := ⟨Tryd.f76.name, by decide, Tryd.func76.trans (congrArg some (by kernel_rfl))⟩,
  f28 := Tryd.func77.trans (congrArg some (by kernel_rfl)),
  f29 := Tryd.func78.trans (congrArg some (by kernel_rfl)),
  f46 := ⟨Tryd.f94.name, by decide, Tryd.func94.trans (congrArg some (by kernel_rfl))⟩,
  f47 := Tryd.func95.trans (congrArg some (by kernel_rfl)),
  f48 := Tryd.func96.trans (congrArg some (by kernel_rfl)),
  f49 := ⟨Tryd.f97.name, by decide, Tryd.func97.trans (congrArg some (by kernel_rfl))⟩,
  f50 := ⟨Tryd.f98.name, by decide, Tryd.func98.trans (congrArg some (by kernel_rfl))⟩,
  f57 := ⟨Tryd.f107.name, by decide, Tryd.func107.trans (congrArg some (by kernel_rfl))⟩,
  t0 := Tryd.underlying0,
  a0 := Tryd.isAgg0,
  z0 := Tryd.sizeOf0,
  v0 := Tryd.zeroValue0,
  t3 := Tryd.underlying3,
  a3 := Tryd.isAgg3,
  z3 := Tryd.sizeOf3,
  v3 := Tryd.zeroValue3,
  t4 := Tryd.underlying4,
  a4 := Tryd.isAgg4,
  z4 := Tryd.sizeOf4,
  v4 := Tryd.zeroValue4,
  t5 := Tryd.underlying5,
  a5 := Tryd.isAgg5,
  z5 := Tryd.sizeOf5,
  v5 := Tryd.zeroValue5,
  t9 := Tryd.underlying9,
  a9 := Tryd.isAgg9,
  z9 := Tryd.sizeOf9,
  v9 := Tryd.zeroValue9,
  t22 := Tryd.underlying26,
  a22 := Tryd.isAgg26,
  z22 := Tryd.sizeOf26,
  v22 := Tryd.zeroValue26,
  t25 := Tryd.underlying103,
  a25 := Tryd.isAgg103,
  z25 := Tryd.sizeOf103,
  v25 := Tryd.zeroValue103,
  t39 := Tryd.underlying127,
  a39 := Tryd.isAgg127,
  z39 := Tryd.sizeOf127,
  v39 := Tryd.zeroValue127,
  t45 := Tryd.underlying144,
  a45 := Tryd.isAgg144,
  z45 := Tryd.sizeOf144,
  v45 := Tryd.zeroValue144,
  t46 := Tryd.underlying145,
  a46 := Tryd.isAgg145,
  z46 := Tryd.sizeOf145,
  v46 := Tryd.zeroValue145,
  t50 := Tryd.underlying48,
  a50 := Tryd.isAgg48,
  z50 := Tryd.sizeOf48,
  v50 := Tryd.zeroValue48,
  t53 := Tryd.underlying151,
  a53 := Tryd.isAgg151,
  z53 := Tryd.sizeOf151,
  v53 := Tryd.zeroValue151,
  t55 := Tryd.underlying153,
  a55 := Tryd.isAgg153,
  z55 := Tryd.sizeOf153,
  v55 := Tryd.zeroValue153,
  t66 := Tryd.underlying167,
  a66 := Tryd.isAgg167,
  z66 := Tryd.sizeOf167,
  v66 := Tryd.zeroValue167,
  t70 := Tryd.underlying171,
  a70 := Tryd.isAgg171,
  z70 := Tryd.sizeOf171,
  v70 := Tryd.zeroValue171,
  t76 := Tryd.underlying179,
  a76 := Tryd.isAgg179,
  z76 := Tryd.sizeOf179,
  v76 := Tryd.zeroValue179,
  t77 := Tryd.underlying180,
  a77 := Tryd.isAgg180,
  z77 := Tryd.sizeOf180,
  v77 := Tryd.zeroValue180 }
def YtgdmaadikcnagaaDoor.cmpIntD_ren : Go.Shelf.Ren := ⟨fun | 5 => 39 | 7 => 55 | n => n, fun | 22 => 3 | 3 => 3 | 4 => 4 | n => n, fun | n => n⟩
theorem YtgdmaadikcnagaaDoor.cmpIntD : Go.Proofs.SlLaysC2.n5 Tryd.prog YtgdmaadikcnagaaDoor.cmpIntD_ren := {
  mixed := by kernel_rfl,
  f5 := ⟨Tryd.f39.name, by decide, Tryd.func39.trans (congrArg some (by kernel_rfl))⟩,
  f7 := ⟨Tryd.f55.name, by decide, Tryd.func55.trans (congrArg some (by kernel_rfl))⟩,
  t3 := Tryd.underlying3,
  a3 := Tryd.isAgg3,
  z3 := Tryd.sizeOf3,
  v3 := Tryd.zeroValue3,
  t4 := Tryd.underlying4,
  a4 := Tryd.isAgg4,
  z4 := Tryd.sizeOf4,
  v4 := Tryd.zeroValue4,
  t22 := Tryd.underlying3,
  a22 := Tryd.isAgg3,
  z22 := Tryd.sizeOf3,
  v22 := Tryd.zeroValue3 }
end Go.Proofs
namespace Go.Proofs.YtgdmaadikcnagaaDoor
open Go Go.Gx Go.RowKit
set_option linter.unusedVariables false
set_option linter.unusedSimpArgs false
theorem compare_x (x y : Int) (w : World) : CallsW Tryd.prog 39 #[.int .i64 x, .int .i64 y] w (fun v w' => v = .int .i64 (cmp1 x y) ∧ w' = w) :=
  ⟨Calls.mono (AnyG.cmp_Compare_int YtgdmaadikcnagaaDoor.cmpIntD x y w) fun e w' h => by rcases h with ⟨rfl, rfl⟩; exact ⟨_, rfl, rfl, rfl⟩⟩
def cfL (x y : GDebt) : Int := cmp1 x.Due y.Due
theorem cmpL_x (x y : GDebt) (w0 : World) : CallsW Tryd.prog 41 #[.agg x.enc.toArray, .agg y.enc.toArray] w0 (fun v w' => v = .int .i64 (cfL x y) ∧ GX w0 w') := by
  have S := St.start w0
  refine CallsW.mk ?_
  refine calls_enter Tryd.func41 rfl (by intro _ h; first | exact nomatch h.1 | (obtain ⟨_, h, _⟩ := h; exact nomatch h)) Tryd.ntmps41 rfl ?_
  refine WP_seq ?_
  refine WP_region ?_
  refine st_valE rfl (r_boxX S rfl) ?_
  rintro _ w1 ⟨b1, rfl, G1, S1⟩
  refine st_valE rfl (r_boxX S1 rfl) ?_
  rintro _ w2 ⟨b2, rfl, G2, S2⟩
  have G := G1.trans G2
  replace S : St w0 w2 [.var b1 33 x.enc, .var b2 33 y.enc] := S2
  clear S1 S2 G1 G2
  repeat' (first | refine WP_seq ?_ | refine WP_region ?_ | refine wl_nil ?_ | refine then_normal ?_ | (refine g_assign ?_; refine st_assign rfl ?_) | (refine g_fieldAddr ?_; refine st_val rfl (r_fieldAddrL rfl) ?_) | (refine g_load ?_; first | refine st_val rfl (r_loadVar (i := 0) S rfl rfl rfl) ?_ | refine st_val rfl (r_loadVar (i := 1) S rfl rfl rfl) ?_))
  refine st_callW rfl (r_call2 rfl rfl rfl) (compare_x x.Due y.Due _) ?_
  rintro _ _ ⟨rfl, rfl⟩
  repeat' (first | refine wl_nil ?_ | refine then_normal ?_ | refine WP_ret ?_ | (refine g_assign ?_; refine st_assign rfl ?_))
  exact end1 rfl rfl ⟨_, rfl, rfl, G⟩
theorem cfL_lt (x y : GDebt) : (ltOf cfL x y = true) ↔ x.Due < y.Due := by
  unfold ltOf cfL cmp1
  rw [decide_eq_true_eq]
  (repeat' split) <;> omega
def ltL (x y : GDebt) : Bool := ltOf cfL x y
theorem swoL : Go.Sort.SWO ltL where
  irrefl x := by have := cfL_lt x x; unfold ltL; cases h : ltOf cfL x x <;> simp_all
  trans x y z h1 h2 := by unfold ltL at *; rw [cfL_lt] at *; omega
  ntrans x y z h1 h2 := by
    unfold ltL at *
    have a := cfL_lt x y; have b := cfL_lt y z; have c := cfL_lt x z
    cases h3 : ltOf cfL x z
    · rfl
    · rw [h3] at c; rw [h1] at a; rw [h2] at b; simp at a b c; omega
theorem sortL_spec {w0 w : World} {os : List Ob} {i b cap : Nat} {l : List GDebt} (S : St w0 w os) (hi : os[i]? = some (rowOb fGDebt 33 (.slice (some ⟨b, 0, none⟩) l.length cap) l)) (hl : l.length ≤ 1000000) :
    CallsW Tryd.prog 40 #[.slice (some ⟨b, 0, none⟩) l.length cap, .func (.func 41) #[] #[]] w fun v w' =>
      v = .tuple #[] ∧ ∃ l', l'.Perm l ∧ l'.length = l.length ∧ l'.Pairwise (fun x y => ltL y x = false) ∧ St w0 w' (os.set i (rowOb fGDebt 33 (.slice (some ⟨b, 0, none⟩) l.length cap) l')) :=
  sort_row (D := fGDebt) (by decide) S hi fun hH hb => by
    have hcon := AnyQ.slices_SortFunc YtgdmaadikcnagaaDoor.sortDebt 4 Tryd.isAgg33 Tryd.sizeOf33 GDebt.enc (fun _ => rfl) (fun x v hv => by simp [GDebt.enc] at hv; rcases hv with rfl | rfl | rfl | rfl <;> rfl) cfL swoL 41 #[] b 0 cap l.toArray w
      (enters_of Tryd.func41 (by kernel_rfl) rfl) (fun _ _ _ _ x y => Calls.mono (cmpL_x x y _).out fun e w' ⟨v, he, hv, hG⟩ => ⟨by rw [he, hv], hG.grow⟩) hH hb (by simp; omega)
    exact hcon
theorem sortL_any {w0 w : World} {os : List Ob} {i : Nat} {v : Value} {l : List GDebt} (S : St w0 w os) (hi : os[i]? = some (rowOb fGDebt 33 v l)) (hl : l.length ≤ 1000000) :
    CallsW Tryd.prog 40 #[v, .func (.func 41) #[] #[]] w fun u w' =>
      u = .tuple #[] ∧ ∃ l', l'.Perm l ∧ l'.length = l.length ∧ l'.Pairwise (fun x y => ltL y x = false) ∧ St w0 w' (os.set i (rowOb fGDebt 33 v l')) := by
  have hh : w.ownsRow w0.heap.size 33 fGDebt.sz v l.length (fl fGDebt l) := S.ok _ (mem_of_get hi)
  rcases hh.2 with ⟨hv, h0⟩ | ⟨g', cap', cur, hv, _⟩
  · subst hv
    have e : l = [] := List.length_eq_zero_iff.1 h0
    subst e
    have hcon := AnyF.slices_SortFunc_none YtgdmaadikcnagaaDoor.sortDebt none 0 (.func (.func 41) #[] #[]) w
    refine ⟨Calls.mono hcon fun e w' ⟨he, hw⟩ => ⟨_, he, rfl, [], List.Perm.refl _, rfl, List.Pairwise.nil, ?_⟩⟩
    subst hw
    have := (List.getElem?_eq_some_iff.1 hi)
    obtain ⟨h1, h2⟩ := this
    rw [← h2, List.set_getElem_self]; exact S
  · subst hv
    exact sortL_spec S hi hl
end Go.Proofs.YtgdmaadikcnagaaDoor
/- Lack: the first deadline that cannot be kept. -/
namespace Go.Proofs.YtgdmaadikcnagaaDoor
open Go Go.Gx Go.RowKit
set_option linter.unusedVariables false
set_option linter.unusedSimpArgs false

/-- The room from now on. -/
def usedR (now : Int) : List GOpening → Int
  | [] => 0
  | o :: r => (if now ≤ o.At then o.Count else 0) + usedR now r
theorem usedR_append (now : Int) : ∀ a b : List GOpening, usedR now (a ++ b) = usedR now a + usedR now b
  | [], b => by simp [usedR]
  | x :: a, b => by simp [usedR, usedR_append now a b]; omega
theorem cntA_append : ∀ a b : List GDebt, cntA (a ++ b) = cntA a + cntA b
  | [], b => by simp [cntA]
  | x :: a, b => by simp [cntA, cntA_append a b]; omega
theorem cnt_append (D : Int) : ∀ a b : List GDebt, cnt D (a ++ b) = cnt D a + cnt D b
  | [], b => by simp [cnt]
  | x :: a, b => by simp [cnt, cnt_append D a b]; omega
theorem roomW_append (now D : Int) : ∀ a b : List GOpening, roomW now D (a ++ b) = roomW now D a + roomW now D b
  | [], b => by simp [roomW]
  | x :: a, b => by simp [roomW, roomW_append now D a b]; omega
theorem cnt_zero (D : Int) : ∀ {l : List GDebt}, (∀ x ∈ l, x.Due ≤ D) → cnt D l = 0
  | [], _ => rfl
  | a :: r, h => by
    have h1 := h a (List.mem_cons_self ..)
    simp only [cnt]
    rw [if_neg (by omega), cnt_zero D fun x hx => h x (List.mem_cons_of_mem _ hx)]; rfl
theorem roomW_all (now D : Int) : ∀ {l : List GOpening}, (∀ x ∈ l, x.At < D) → roomW now D l = usedR now l
  | [], _ => rfl
  | a :: r, h => by
    have h1 := h a (List.mem_cons_self ..)
    have ih := roomW_all now D fun x hx => h x (List.mem_cons_of_mem _ hx)
    simp only [roomW, usedR, ih]
    by_cases c : now ≤ a.At
    · rw [if_pos ⟨c, h1⟩, if_pos c]
    · rw [if_neg (fun h => c h.1), if_neg c]
theorem take_snoc {α : Type} [Inhabited α] {l : List α} {i : Int} (h0 : 0 ≤ i) (hi : i < l.length) : l.take (i + 1).toNat = l.take i.toNat ++ [nth l i] := by
  rw [show (i + 1).toNat = i.toNat + 1 by omega, List.take_add_one, nth_get h0 hi]; rfl
theorem mem_take {α : Type} [Inhabited α] {l : List α} {i : Int} {x : α} (h : x ∈ l.take i.toNat) (hi : i ≤ l.length) : ∃ j : Int, 0 ≤ j ∧ j < i ∧ nth l j = x := by
  obtain ⟨j, hj⟩ := List.getElem?_of_mem h
  rw [List.getElem?_take] at hj
  split at hj
  · rename_i hlt
    have hjl := (List.getElem?_eq_some_iff.1 hj).1
    refine ⟨j, by omega, by omega, ?_⟩
    have := nth_get (l := l) (i := (j : Int)) (by omega) (by omega)
    rw [Int.toNat_natCast, hj] at this
    exact (Option.some.inj this).symm
  · cases hj
theorem mem_drop {α : Type} [Inhabited α] {l : List α} {i : Int} {x : α} (h0 : 0 ≤ i) (h : x ∈ l.drop i.toNat) : ∃ j : Int, i ≤ j ∧ j < l.length ∧ nth l j = x := by
  obtain ⟨j, hj⟩ := List.getElem?_of_mem h
  rw [List.getElem?_drop] at hj
  have hjl := (List.getElem?_eq_some_iff.1 hj).1
  refine ⟨(i.toNat + j : Nat), by omega, by omega, ?_⟩
  have := nth_get (l := l) (i := ((i.toNat + j : Nat) : Int)) (by omega) (by omega)
  rw [Int.toNat_natCast, hj] at this
  exact (Option.some.inj this).symm
theorem mem_nth {α : Type} [Inhabited α] {l : List α} {i : Int} (h0 : 0 ≤ i) (hi : i < l.length) : nth l i ∈ l := List.mem_of_getElem? (nth_get h0 hi)
/-- What is needed at a deadline, as Lack counts it. -/
theorem lack_at {now : Int} {l : List GDebt} {os : List GOpening} {i k : Int} (hs : ∀ a b : Int, 0 ≤ a → a ≤ b → b < l.length → (nth l a).Due ≤ (nth l b).Due) (h0 : 0 ≤ i) (hi : i < l.length) (k0 : 0 ≤ k) (hk : k ≤ os.length)
    (hnext : i + 1 < l.length → (nth l (i + 1)).Due ≠ (nth l i).Due) (ho : ∀ j : Int, 0 ≤ j → j < k → (nth os j).At < (nth l i).Due) (ho2 : ∀ j : Int, k ≤ j → j < os.length → (nth l i).Due ≤ (nth os j).At) :
    cntA (l.take (i + 1).toNat) - usedR now (os.take k.toNat) = lackP now l os (nth l i).Due := by
  have e1 : cntA l = cntA (l.take (i + 1).toNat) + cntA (l.drop (i + 1).toNat) := by rw [← cntA_append, List.take_append_drop]
  have e2 : cnt (nth l i).Due l = cnt (nth l i).Due (l.take (i + 1).toNat) + cnt (nth l i).Due (l.drop (i + 1).toNat) := by rw [← cnt_append, List.take_append_drop]
  have e3 : roomW now (nth l i).Due os = roomW now (nth l i).Due (os.take k.toNat) + roomW now (nth l i).Due (os.drop k.toNat) := by rw [← roomW_append, List.take_append_drop]
  have z1 : cnt (nth l i).Due (l.take (i + 1).toNat) = 0 := cnt_zero _ fun x hx => by
    obtain ⟨j, a, b, rfl⟩ := mem_take hx (by omega)
    exact hs j i a (by omega) hi
  have z2 : cnt (nth l i).Due (l.drop (i + 1).toNat) = cntA (l.drop (i + 1).toNat) := cnt_all _ fun x hx => by
    obtain ⟨j, a, b, rfl⟩ := mem_drop (by omega) hx
    have h1 := hs (i + 1) j (by omega) a b
    have h2 := hs i (i + 1) h0 (by omega) (by omega)
    have h3 := hnext (by omega)
    omega
  have z3 : roomW now (nth l i).Due (os.take k.toNat) = usedR now (os.take k.toNat) := roomW_all _ _ fun x hx => by
    obtain ⟨j, a, b, rfl⟩ := mem_take hx hk
    exact ho j a b
  have z4 : roomW now (nth l i).Due (os.drop k.toNat) = 0 := roomW_zero _ _ fun x hx => by
    obtain ⟨j, a, b, rfl⟩ := mem_drop k0 hx
    exact ho2 j a b
  unfold lackP
  omega
theorem lackP_perm {now : Int} {l ds : List GDebt} {os : List GOpening} (h : l.Perm ds) (D : Int) : lackP now l os D = lackP now ds os D := by
  unfold lackP; rw [cntA_perm h, cnt_perm h]
/-- What Lack returns. -/
structure LackR (ds : List GDebt) (os : List GOpening) (now : Int) (v : Value) : Prop where
  ex : ∃ (n : Int) (b : Bool), v = .tuple #[.int .i64 n, .bool b] ∧ (if validI ds os now = true then IsLack now ds os n b else n = 0 ∧ b = false)
set_option maxHeartbeats 2000000 in
theorem lack_run {ds : List GDebt} {os : List GOpening} {now : Int} {v1 v2 : Value} {w0 : World} (hr1 : Rd fGDebt.ty w0 v1 ds) (hr2 : Rd fGOpening.ty w0 v2 os) (hl1 : ds.length ≤ 1000000) (hl2 : os.length ≤ 1000000) :
    CallsR Tryd.prog 17 #[v1, v2, .int .i64 now] w0 (fun v _ => LackR ds os now v) := by
  have S := St.start w0
  obtain ⟨A1, c1, rfl⟩ := hr1.len
  obtain ⟨A2, c2, rfl⟩ := hr2.len
  refine CallsR.mk ?_
  refine calls_enter Tryd.func17 rfl (by intro _ h; first | exact nomatch h.1 | (obtain ⟨_, h, _⟩ := h; exact nomatch h)) Tryd.ntmps17 rfl ?_
  cases hv : validI ds os now with
  | false =>
    repeat' (first | refine WP_seq ?_ | refine WP_region ?_ | refine wl_nil ?_ | refine then_normal ?_ | refine then_ret ?_ | refine WP_ret ?_ | (refine g_move ?_; refine st_move rfl ?_) | (refine g_assign ?_; refine st_assign rfl ?_) | (refine g_un ?_; refine st_val rfl (r_not rfl) ?_) | (refine g_callV ?_; (refine st_callV rfl (r_call3 rfl rfl rfl rfl) (validI_spec (hr1.mono S.below) (hr2.mono S.below) (by omega) (by omega)) ?_; intro w hb; replace S := S.grow hb; clear hb)) | (refine WP_cond rfl (fun h => ?_) (fun h => ?_) <;> (fail_if_success (have hh : true = true := h)) <;> (fail_if_success (have hh : false = false := h)) <;> (try simp only [decide_eq_true_eq, decide_eq_false_iff_not, Bool.not_eq_true', Bool.not_eq_false', Int.not_lt, Int.not_le] at h) <;> (try (exfalso; omega)) <;> (try (exfalso; rw [hv] at h; cases h; done))))
    exact end2 rfl rfl rfl ⟨_, rfl, S.below, ⟨0, false, rfl, by rw [hv]; exact ⟨rfl, rfl⟩⟩⟩
  | true =>
  obtain ⟨b1, b2, b3, b4, b5, b6⟩ := validI_ok hv
  repeat' (first | refine WP_seq ?_ | refine WP_region ?_ | refine wl_nil ?_ | refine then_normal ?_ | refine WP_skip ?_ | (refine g_move ?_; refine st_move rfl ?_) | (refine g_assign ?_; refine st_assign rfl ?_) | (refine g_un ?_; refine st_val rfl (r_not rfl) ?_) | (refine g_callV ?_; (refine st_callV rfl (r_call3 rfl rfl rfl rfl) (validI_spec (hr1.mono S.below) (hr2.mono S.below) (by omega) (by omega)) ?_; intro w hb; replace S := S.grow hb; clear hb)) | (refine st_callR rfl (r_call1 rfl rfl) (cloneD_run (hr1.mono S.below) hl1) ?_; rintro v w hb hrow; replace S := S.new hb hrow; clear hb hrow) | (refine WP_cond rfl (fun h => ?_) (fun h => ?_) <;> (fail_if_success (have hh : true = true := h)) <;> (fail_if_success (have hh : false = false := h)) <;> (try simp only [decide_eq_true_eq, decide_eq_false_iff_not, Bool.not_eq_true', Bool.not_eq_false', Int.not_lt, Int.not_le] at h) <;> (try (exfalso; omega)) <;> (try (exfalso; rw [hv] at h; cases h; done))))
  refine st_callW rfl (r_call2 rfl rfl rfl) (sortL_any (i := 0) (v := v) S rfl hl1) ?_
  rintro _ w ⟨rfl, l, hp, hln, hpw, S'⟩
  replace S := S'; clear S'
  obtain ⟨A, c, hz⟩ := (S.rdRow (D := fGDebt) (i := 0) rfl).len; subst hz
  have hs : ∀ a b : Int, 0 ≤ a → a ≤ b → b < l.length → (nth l a).Due ≤ (nth l b).Due := fun a b h1 h2 h3 => by
    by_cases e : a = b
    · subst e; omega
    · have ha := nth_get (l := l) (i := a) h1 (by omega)
      have hb := nth_get (l := l) (i := b) (by omega) h3
      obtain ⟨ha1, ha2⟩ := List.getElem?_eq_some_iff.1 ha
      obtain ⟨hb1, hb2⟩ := List.getElem?_eq_some_iff.1 hb
      have := List.pairwise_iff_getElem.1 hpw a.toNat b.toNat ha1 hb1 (by omega)
      rw [ha2, hb2] at this
      unfold ltL at this
      have k := cfL_lt (nth l b) (nth l a)
      rw [this] at k
      simp at k; omega
  have hpl : ∀ j : Int, 0 ≤ j → j < l.length → 1 ≤ (nth l j).Count ∧ (nth l j).Count ≤ 50 := fun j h0 hj => by
    have hm := hp.mem_iff.1 (mem_nth h0 hj)
    obtain ⟨j', hj'⟩ := List.getElem?_of_mem hm
    have hjl := (List.getElem?_eq_some_iff.1 hj').1
    have h2 := nth_get (l := ds) (i := (j' : Int)) (by omega) (by omega)
    rw [Int.toNat_natCast, hj'] at h2
    have h3 := (okDa_iff (b5 j' (by omega) (by omega))).1 rfl
    rw [Option.some.inj h2]; omega
  have hst : ∀ D, lackP now l os D = lackP now ds os D := lackP_perm hp
  have hrd : Rd fGDebt.ty w (.slice A l.length c) l := S.rdRow (D := fGDebt) (i := 0) rfl
  repeat' (first | refine WP_seq ?_ | refine WP_region ?_ | refine wl_nil ?_ | refine then_normal ?_ | refine WP_block ?_ | (refine g_move ?_; refine st_move rfl ?_) | (refine g_assign ?_; refine st_assign rfl ?_) | (refine g_c_len ?_; refine st_val rfl (r_lenSlice rfl) ?_))
  refine WP_loop (fun m σ w1 => ∃ (i k need : Int), Has σ [(1, .slice A2 os.length c2), (2, .int .i64 now), (8, .slice A l.length c), (9, .int .i64 need), (10, .int .i64 k), (22, .slice A l.length c), (23, .int .i64 l.length), (24, .int .i64 i)] ∧ St w0 w1 [rowOb fGDebt 33 (.slice A l.length c) l] ∧ need = cntA (l.take i.toNat) - usedR now (os.take k.toNat) ∧ -(20 * k) ≤ need ∧ need ≤ 50 * i ∧
    (∀ j : Int, 0 ≤ j → j < k → i < l.length → (nth os j).At < (nth l i).Due) ∧ (∀ j : Int, 0 ≤ j → j < i → (i < l.length ∧ (nth l j).Due = (nth l i).Due) ∨ lackP now l os (nth l j).Due ≤ 0) ∧ 0 ≤ i ∧ i ≤ l.length ∧ 0 ≤ k ∧ k ≤ os.length ∧ m = l.length - i.toNat) l.length ⟨0, 0, 0, ⟨rfl, rfl, rfl, rfl, rfl, rfl, rfl, rfl, trivial⟩, S, rfl, by omega, by omega, fun j a b => by omega, fun j a b => by omega, by omega, by omega, by omega, by omega, by omega⟩ ?_
  clear S hrd
  rintro m σ w1 ⟨i, k, need, hs', S, hne, hn1, hn2, hk, hprev, hi0, hi1, hk0, hk1, rfl⟩
  refine WP_has hs' ?_
  have hrd : Rd fGDebt.ty w1 (.slice A l.length c) l := S.rdRow (D := fGDebt) (i := 0) rfl
  by_cases hi : i < l.length
  · have hci := hpl i hi0 hi
    have hneed : need + (nth l i).Count = cntA (l.take (i + 1).toNat) - usedR now (os.take k.toNat) := by
      rw [take_snoc hi0 hi, cntA_append, hne]; simp only [cntA]; omega
    by_cases hsame : i + 1 < l.length ∧ (nth l (i + 1)).Due = (nth l i).Due
    · obtain ⟨hsm1, hsm2⟩ := hsame
      repeat' (first | refine WP_seq ?_ | refine WP_region ?_ | refine wl_nil ?_ | refine then_normal ?_ | refine then_exit ?_ | refine inB_here ?_ | refine WP_skip ?_ | refine WP_exit ?_ | refine WP_block ?_ | refine WP_draw (by kernel_rfl) (by kernel_rfl) ?_ | (refine ql_nil ?_; intro w hb; replace S := S.grow hb; clear hb) | (refine g_move ?_; refine st_move rfl ?_) | (refine g_assign ?_; refine st_assign rfl ?_) | (refine g_b_add ?_; (refine st_val rfl (r_addN rfl rfl ?_ ?_) ?_; (first | omega | (simp <;> omega)); (first | omega | (simp <;> omega)))) | (refine g_b_lss ?_; refine st_val rfl (r_lss rfl rfl) ?_) | (refine g_fieldAddr ?_; refine st_val rfl (r_fieldAddrL rfl) ?_) | (refine g_indexAddr ?_; (refine st_val rfl (r_indexAddr (S.rdRow (D := fGDebt) (i := 0) rfl) rfl rfl ?_ ?_) ?_; (first | omega | (simp <;> omega)); (first | omega | (simp <;> omega)))) | (refine g_load ?_; first | (refine st_val rfl (r_loadElem (S.rdRow (D := fGDebt) (i := 0) rfl) rfl ?_ ?_) ?_; (first | omega | (simp <;> omega)); (first | omega | (simp <;> omega))) | refine st_val rfl (r_loadVar (i := 1) S rfl rfl rfl) ?_) | (refine gq_move ?_; refine q_move rfl ?_) | (refine gq_pick ?_; refine q_pickT rfl rfl ?_) | (refine gq_b_add ?_; (refine q_val rfl (fun w' hb => r_addN rfl rfl ?_ ?_) ?_; (first | omega | (simp <;> omega)); (first | omega | (simp <;> omega)))) | (refine gq_b_eql ?_; refine q_val rfl (fun w' hb => r_eql rfl rfl) ?_) | (refine gq_b_lss ?_; refine q_val rfl (fun w' hb => r_lss rfl rfl) ?_) | (refine gq_c_len ?_; refine q_val rfl (fun w' hb => r_lenSlice rfl) ?_) | (refine gq_fieldAddr ?_; first | refine q_val rfl (fun w' hb => r_fieldAddrL rfl) ?_ | refine q_val rfl (fun w' hb => r_fieldAddr rfl) ?_) | (refine gq_indexAddr ?_; (refine q_val rfl (fun w' hb => r_indexAddr ((S.grow hb).rdRow (D := fGDebt) (i := 0) rfl) rfl rfl ?_ ?_) ?_; (first | omega | (simp <;> omega)); (first | omega | (simp <;> omega)))) | (refine gq_load ?_; first | (refine q_val rfl (fun w' hb => r_loadElemF ((S.grow hb).rdRow (D := fGDebt) (i := 0) rfl) rfl ?_ ?_ rfl) ?_; (first | omega | (simp <;> omega)); (first | omega | (simp <;> omega))) | refine q_val rfl (fun w' hb => r_loadVar (i := 1) (S.grow hb) rfl rfl rfl) ?_) | (refine g_alloc ?_; refine st_valE rfl (r_alloc S) ?_; rintro _ w ⟨b, rfl, -, S'⟩; replace S := S'; clear S') | (refine g_store ?_; first | (refine st_skipE rfl (r_storeVar (i := 0) S rfl rfl rfl rfl (of_decide_eq_true rfl) (of_decide_eq_true rfl)) ?_; intro w S'; replace S := S'; clear S') | (refine st_skipE rfl (r_storeVar (i := 1) S rfl rfl rfl rfl (of_decide_eq_true rfl) (of_decide_eq_true rfl)) ?_; intro w S'; replace S := S'; clear S')) | (refine ql_split rfl rfl (fun h => ?_) (fun h => ?_) <;> (fail_if_success (have hh : true = true := h)) <;> (fail_if_success (have hh : false = false := h)) <;> (try simp only [decide_eq_true_eq, decide_eq_false_iff_not, Bool.not_eq_true', Bool.not_eq_false', Int.not_lt, Int.not_le] at h) <;> (try (exfalso; omega)) <;> (try (exfalso; omega; done))) | (refine WP_cond rfl (fun h => ?_) (fun h => ?_) <;> (fail_if_success (have hh : true = true := h)) <;> (fail_if_success (have hh : false = false := h)) <;> (try simp only [decide_eq_true_eq, decide_eq_false_iff_not, Bool.not_eq_true', Bool.not_eq_false', Int.not_lt, Int.not_le] at h) <;> (try (exfalso; omega)) <;> (try (exfalso; omega; done))))
      refine ⟨⟨_, ?_, i + 1, k, _, ⟨rfl, rfl, rfl, rfl, rfl, rfl, rfl, rfl, trivial⟩, S.keep [true, false], hneed, by omega, by omega, fun j a b _ => by rw [hsm2]; exact hk j a b hi, fun j a b => ?_, by omega, by omega, by omega, by omega, rfl⟩⟩
      · omega
      · by_cases e : j = i
        · subst e; exact .inl ⟨hsm1, hsm2.symm⟩
        · rcases hprev j a (by omega) with ⟨_, h⟩ | h
          · exact .inl ⟨hsm1, by rw [hsm2]; exact h⟩
          · exact .inr h
    · repeat' (first | refine WP_seq ?_ | refine WP_region ?_ | refine wl_nil ?_ | refine then_normal ?_ | refine WP_skip ?_ | refine WP_block ?_ | refine WP_condF rfl ?_ | refine WP_draw (by kernel_rfl) (by kernel_rfl) ?_ | (refine ql_nil ?_; intro w hb; replace S := S.grow hb; clear hb) | (refine g_move ?_; refine st_move rfl ?_) | (refine g_assign ?_; refine st_assign rfl ?_) | (refine g_b_add ?_; (refine st_val rfl (r_addN rfl rfl ?_ ?_) ?_; (first | omega | (simp <;> omega)); (first | omega | (simp <;> omega)))) | (refine g_b_lss ?_; refine st_val rfl (r_lss rfl rfl) ?_) | (refine g_fieldAddr ?_; refine st_val rfl (r_fieldAddrL rfl) ?_) | (refine g_indexAddr ?_; (refine st_val rfl (r_indexAddr (S.rdRow (D := fGDebt) (i := 0) rfl) rfl rfl ?_ ?_) ?_; (first | omega | (simp <;> omega)); (first | omega | (simp <;> omega)))) | (refine g_load ?_; first | (refine st_val rfl (r_loadElem (S.rdRow (D := fGDebt) (i := 0) rfl) rfl ?_ ?_) ?_; (first | omega | (simp <;> omega)); (first | omega | (simp <;> omega))) | refine st_val rfl (r_loadVar (i := 1) S rfl rfl rfl) ?_) | (refine gq_guard ?_; refine q_off rfl ?_) | (refine gq_move ?_; refine q_move rfl ?_) | (refine gq_pick ?_; first | refine q_pickT rfl rfl ?_ | refine q_pickF rfl rfl ?_) | (refine gq_b_add ?_; (refine q_val rfl (fun w' hb => r_addN rfl rfl ?_ ?_) ?_; (first | omega | (simp <;> omega)); (first | omega | (simp <;> omega)))) | (refine gq_b_eql ?_; refine q_val rfl (fun w' hb => r_eql rfl rfl) ?_) | (refine gq_b_lss ?_; refine q_val rfl (fun w' hb => r_lss rfl rfl) ?_) | (refine gq_c_len ?_; refine q_val rfl (fun w' hb => r_lenSlice rfl) ?_) | (refine gq_fieldAddr ?_; first | refine q_val rfl (fun w' hb => r_fieldAddrL rfl) ?_ | refine q_val rfl (fun w' hb => r_fieldAddr rfl) ?_) | (refine gq_indexAddr ?_; (refine q_val rfl (fun w' hb => r_indexAddr ((S.grow hb).rdRow (D := fGDebt) (i := 0) rfl) rfl rfl ?_ ?_) ?_; (first | omega | (simp <;> omega)); (first | omega | (simp <;> omega)))) | (refine gq_load ?_; first | (refine q_val rfl (fun w' hb => r_loadElemF ((S.grow hb).rdRow (D := fGDebt) (i := 0) rfl) rfl ?_ ?_ rfl) ?_; (first | omega | (simp <;> omega)); (first | omega | (simp <;> omega))) | refine q_val rfl (fun w' hb => r_loadVar (i := 1) (S.grow hb) rfl rfl rfl) ?_) | (refine g_alloc ?_; refine st_valE rfl (r_alloc S) ?_; rintro _ w ⟨b, rfl, -, S'⟩; replace S := S'; clear S') | (refine g_store ?_; first | (refine st_skipE rfl (r_storeVar (i := 0) S rfl rfl rfl rfl (of_decide_eq_true rfl) (of_decide_eq_true rfl)) ?_; intro w S'; replace S := S'; clear S') | (refine st_skipE rfl (r_storeVar (i := 1) S rfl rfl rfl rfl (of_decide_eq_true rfl) (of_decide_eq_true rfl)) ?_; intro w S'; replace S := S'; clear S')) | (refine ql_split rfl rfl (fun h => ?_) (fun h => ?_) <;> (fail_if_success (have hh : true = true := h)) <;> (fail_if_success (have hh : false = false := h)) <;> (try simp only [decide_eq_true_eq, decide_eq_false_iff_not, Bool.not_eq_true', Bool.not_eq_false', Int.not_lt, Int.not_le] at h) <;> (try (exfalso; omega)) <;> (try (exfalso; (first | omega | (refine hsame ⟨by omega, ?_⟩; omega)); done))) | (refine WP_cond rfl (fun h => ?_) (fun h => ?_) <;> (fail_if_success (have hh : true = true := h)) <;> (fail_if_success (have hh : false = false := h)) <;> (try simp only [decide_eq_true_eq, decide_eq_false_iff_not, Bool.not_eq_true', Bool.not_eq_false', Int.not_lt, Int.not_le] at h) <;> (try (exfalso; omega)) <;> (try (exfalso; (first | omega | (refine hsame ⟨by omega, ?_⟩; omega)); done))))
      all_goals
        have hnext : i + 1 < l.length → (nth l (i + 1)).Due ≠ (nth l i).Due := fun h e => hsame ⟨h, e⟩
        refine WP_loop (fun m σ w1 => ∃ (k need : Int), Has σ [(1, .slice A2 os.length c2), (2, .int .i64 now), (8, .slice A l.length c), (9, .int .i64 need), (10, .int .i64 k), (12, .pointer (some ⟨b, 0, none⟩)), (22, .slice A l.length c), (23, .int .i64 l.length), (24, .int .i64 i)] ∧ St w0 w1 [rowOb fGDebt 33 (.slice A l.length c) l, .var b 33 (nth l i).enc] ∧ need = cntA (l.take (i + 1).toNat) - usedR now (os.take k.toNat) ∧ -(20 * k) ≤ need ∧ need ≤ 50 * (i + 1) ∧
          (∀ j : Int, 0 ≤ j → j < k → (nth os j).At < (nth l i).Due) ∧ 0 ≤ k ∧ k ≤ os.length ∧ m = os.length - k.toNat) (os.length - k.toNat) ⟨k, _, ⟨rfl, rfl, rfl, rfl, rfl, rfl, rfl, rfl, rfl, trivial⟩, S, hneed, by omega, by omega, fun j a b => hk j a b hi, by omega, by omega, by omega⟩ ?_
        clear S hrd hne hn1 hn2 hk hneed hk0 hk1 hs' need k
        rintro m σ w1 ⟨k, need, hs', S, hne, hn1, hn2, hk, hk0, hk1, rfl⟩
        refine WP_has hs' ?_
        by_cases hgo : k < os.length ∧ (nth os k).At < (nth l i).Due
        · obtain ⟨hg1, hg2⟩ := hgo
          have hok := (okOa_iff (b6 k hk0 hg1)).1 rfl
          have hu : usedR now (os.take (k + 1).toNat) = usedR now (os.take k.toNat) + (if now ≤ (nth os k).At then (nth os k).Count else 0) := by
            rw [take_snoc hk0 hg1, usedR_append]; simp only [usedR]; omega
          have hk' : ∀ j : Int, 0 ≤ j → j < k + 1 → (nth os j).At < (nth l i).Due := fun j a b => by
            by_cases e : j = k
            · subst e; exact hg2
            · exact hk j a (by omega)
          repeat' (first | refine WP_seq ?_ | refine WP_region ?_ | refine wl_nil ?_ | refine then_normal ?_ | refine inB_normal ?_ | refine WP_skip ?_ | refine WP_block ?_ | refine WP_draw (by kernel_rfl) (by kernel_rfl) ?_ | (refine ql_nil ?_; intro w hb; replace S := S.grow hb; clear hb) | (refine g_move ?_; refine st_move rfl ?_) | (refine g_assign ?_; refine st_assign rfl ?_) | (refine g_b_add ?_; (refine st_val rfl (r_addN rfl rfl ?_ ?_) ?_; (first | omega | (simp <;> omega)); (first | omega | (simp <;> omega)))) | (refine g_b_sub ?_; (refine st_val rfl (r_subN rfl rfl ?_ ?_) ?_; (first | omega | (simp <;> omega)); (first | omega | (simp <;> omega)))) | (refine g_b_geq ?_; refine st_val rfl (r_geq rfl rfl) ?_) | (refine g_fieldAddr ?_; refine st_val rfl (r_fieldAddr rfl) ?_) | (refine g_indexAddr ?_; (refine st_val rfl (r_indexAddr (hr2.mono S.below) rfl rfl ?_ ?_) ?_; (first | omega | (simp <;> omega)); (first | omega | (simp <;> omega)))) | (refine g_load ?_; first | (refine st_val rfl (r_loadElem1 (hr2.mono S.below) rfl ?_ ?_ rfl) ?_; (first | omega | (simp <;> omega)); (first | omega | (simp <;> omega))) | (refine st_val rfl (r_loadElemF (hr2.mono S.below) rfl ?_ ?_ rfl) ?_; (first | omega | (simp <;> omega)); (first | omega | (simp <;> omega)))) | (refine gq_move ?_; refine q_move rfl ?_) | (refine gq_pick ?_; refine q_pickT rfl rfl ?_) | (refine gq_b_lss ?_; refine q_val rfl (fun w' hb => r_lss rfl rfl) ?_) | (refine gq_c_len ?_; refine q_val rfl (fun w' hb => r_lenSlice rfl) ?_) | (refine gq_fieldAddr ?_; first | refine q_val rfl (fun w' hb => r_fieldAddrL rfl) ?_ | refine q_val rfl (fun w' hb => r_fieldAddr rfl) ?_) | (refine gq_indexAddr ?_; (refine q_val rfl (fun w' hb => r_indexAddr (hr2.mono (S.grow hb).below) rfl rfl ?_ ?_) ?_; (first | omega | (simp <;> omega)); (first | omega | (simp <;> omega)))) | (refine gq_load ?_; first | (refine q_val rfl (fun w' hb => r_loadElem1 (hr2.mono (S.grow hb).below) rfl ?_ ?_ rfl) ?_; (first | omega | (simp <;> omega)); (first | omega | (simp <;> omega))) | refine q_val rfl (fun w' hb => r_loadVar (i := 1) (S.grow hb) rfl rfl rfl) ?_) | (refine ql_split rfl rfl (fun h => ?_) (fun h => ?_) <;> (fail_if_success (have hh : true = true := h)) <;> (fail_if_success (have hh : false = false := h)) <;> (try simp only [decide_eq_true_eq, decide_eq_false_iff_not, Bool.not_eq_true', Bool.not_eq_false', Int.not_lt, Int.not_le] at h) <;> (try (exfalso; omega)) <;> (try (exfalso; omega; done))) | (refine WP_cond rfl (fun h => ?_) (fun h => ?_) <;> (fail_if_success (have hh : true = true := h)) <;> (fail_if_success (have hh : false = false := h)) <;> (try simp only [decide_eq_true_eq, decide_eq_false_iff_not, Bool.not_eq_true', Bool.not_eq_false', Int.not_lt, Int.not_le] at h) <;> (try (exfalso; omega)) <;> (try (exfalso; omega; done))))
          · refine ⟨⟨_, ?_, k + 1, _, ⟨rfl, rfl, rfl, rfl, rfl, rfl, rfl, rfl, rfl, trivial⟩, S, by rw [hu, if_pos (by omega)]; omega, by omega, by omega, hk', by omega, by omega, rfl⟩⟩
            omega
          · refine ⟨⟨_, ?_, k + 1, _, ⟨rfl, rfl, rfl, rfl, rfl, rfl, rfl, rfl, rfl, trivial⟩, S, by rw [hu, if_neg (by omega)]; omega, by omega, by omega, hk', by omega, by omega, rfl⟩⟩
            omega
        · have ho2 : ∀ j : Int, k ≤ j → j < os.length → (nth l i).Due ≤ (nth os j).At := fun j a b => by
            have hkk : (nth l i).Due ≤ (nth os k).At := by
              by_cases h : (nth os k).At < (nth l i).Due
              · exact absurd ⟨by omega, h⟩ hgo
              · omega
            have hmono : ∀ n : Nat, k + n < os.length → (nth os k).At ≤ (nth os (k + n)).At := fun n => by
              induction n with
              | zero => intro _; rw [show k + ((0 : Nat) : Int) = k by omega]; omega
              | succ n ih =>
                intro hn
                have h1 := ih (by omega)
                have h2 := (okOa_iff (b6 (k + ((n + 1 : Nat) : Int)) (by omega) hn)).1 rfl
                have h3 := prevO_next os (i := k + (n : Int)) (by omega)
                rw [show k + (n : Int) + 1 = k + ((n + 1 : Nat) : Int) by omega] at h3
                omega
            have := hmono (j - k).toNat (by omega)
            rw [show k + ((j - k).toNat : Int) = j by omega] at this
            omega
          have hL := lack_at (now := now) hs hi0 hi hk0 hk1 hnext hk ho2
          rw [← hne, hst] at hL
          repeat' (first | refine WP_seq ?_ | refine WP_region ?_ | refine wl_nil ?_ | refine then_normal ?_ | refine inB_normal ?_ | refine then_exit ?_ | refine inB_here ?_ | refine then_ret ?_ | refine inB_ret ?_ | refine WP_ret ?_ | refine WP_skip ?_ | refine WP_exit ?_ | refine WP_condF rfl ?_ | refine WP_draw (by kernel_rfl) (by kernel_rfl) ?_ | (refine ql_nil ?_; intro w hb; replace S := S.grow hb; clear hb) | (refine g_move ?_; refine st_move rfl ?_) | (refine g_assign ?_; refine st_assign rfl ?_) | (refine g_b_add ?_; (refine st_val rfl (r_addN rfl rfl ?_ ?_) ?_; (first | omega | (simp <;> omega)); (first | omega | (simp <;> omega)))) | (refine g_b_gtr ?_; refine st_val rfl (r_gtr rfl rfl) ?_) | (refine g_fieldAddr ?_; refine st_val rfl (r_fieldAddrL rfl) ?_) | (refine g_load ?_; refine st_val rfl (r_loadVar (i := 1) S rfl rfl rfl) ?_) | (refine gq_guard ?_; refine q_off rfl ?_) | (refine gq_move ?_; refine q_move rfl ?_) | (refine gq_pick ?_; first | refine q_pickT rfl rfl ?_ | refine q_pickF rfl rfl ?_) | (refine gq_b_lss ?_; refine q_val rfl (fun w' hb => r_lss rfl rfl) ?_) | (refine gq_c_len ?_; refine q_val rfl (fun w' hb => r_lenSlice rfl) ?_) | (refine gq_fieldAddr ?_; first | refine q_val rfl (fun w' hb => r_fieldAddrL rfl) ?_ | refine q_val rfl (fun w' hb => r_fieldAddr rfl) ?_) | (refine gq_indexAddr ?_; (refine q_val rfl (fun w' hb => r_indexAddr (hr2.mono (S.grow hb).below) rfl rfl ?_ ?_) ?_; (first | omega | (simp <;> omega)); (first | omega | (simp <;> omega)))) | (refine gq_load ?_; first | (refine q_val rfl (fun w' hb => r_loadElem1 (hr2.mono (S.grow hb).below) rfl ?_ ?_ rfl) ?_; (first | omega | (simp <;> omega)); (first | omega | (simp <;> omega))) | refine q_val rfl (fun w' hb => r_loadVar (i := 1) (S.grow hb) rfl rfl rfl) ?_) | (refine ql_split rfl rfl (fun h => ?_) (fun h => ?_) <;> (fail_if_success (have hh : true = true := h)) <;> (fail_if_success (have hh : false = false := h)) <;> (try simp only [decide_eq_true_eq, decide_eq_false_iff_not, Bool.not_eq_true', Bool.not_eq_false', Int.not_lt, Int.not_le] at h) <;> (try (exfalso; omega)) <;> (try (exfalso; (first | omega | exact hgo ⟨by omega, by omega⟩); done))) | (refine WP_cond rfl (fun h => ?_) (fun h => ?_) <;> (fail_if_success (have hh : true = true := h)) <;> (fail_if_success (have hh : false = false := h)) <;> (try simp only [decide_eq_true_eq, decide_eq_false_iff_not, Bool.not_eq_true', Bool.not_eq_false', Int.not_lt, Int.not_le] at h) <;> (try (exfalso; omega)) <;> (try (exfalso; (first | omega | exact hgo ⟨by omega, by omega⟩); done))))
          all_goals first
            | (refine end2 rfl rfl rfl ⟨_, rfl, S.below, ⟨(nth l i).Due, true, rfl, ?_⟩⟩
               rw [hv]
               refine .inl ⟨rfl, ⟨nth l i, hp.mem_iff.1 (mem_nth hi0 hi), rfl⟩, by omega, fun d hd hlt => ?_⟩
               obtain ⟨j, hj⟩ := List.getElem?_of_mem (hp.mem_iff.2 hd)
               have hjl := (List.getElem?_eq_some_iff.1 hj).1
               have h2 := nth_get (l := l) (i := (j : Int)) (by omega) (by omega)
               rw [Int.toNat_natCast, hj] at h2
               have h2 := Option.some.inj h2
               subst h2
               by_cases hji : (j : Int) < i
               · rcases hprev j (by omega) hji with ⟨_, h⟩ | h
                 · omega
                 · rw [hst] at h; exact h
               · have := hs i j hi0 (by omega) (by omega)
                 omega)
            | (refine ⟨⟨_, ?_, i + 1, k, _, ⟨rfl, rfl, rfl, rfl, rfl, rfl, rfl, rfl, trivial⟩, S.keep [true, false], hne, by omega, by omega, fun j a b hl' => ?_, fun j a b => ?_, by omega, by omega, by omega, by omega, rfl⟩⟩
               · omega
               · have h1 := hk j a b
                 have h2 := hs i (i + 1) hi0 (by omega) hl'
                 omega
               · refine .inr ?_
                 by_cases e : j = i
                 · subst e; rw [hst]; omega
                 · rcases hprev j a (by omega) with ⟨_, h⟩ | h
                   · rw [h, hst]; omega
                   · exact h)
  · have hii : i = l.length := by omega
    repeat' (first | refine WP_seq ?_ | refine WP_region ?_ | refine wl_nil ?_ | refine then_normal ?_ | refine then_exit ?_ | refine inB_here ?_ | refine WP_ret ?_ | refine WP_exit ?_ | (refine g_assign ?_; refine st_assign rfl ?_) | (refine g_b_lss ?_; refine st_val rfl (r_lss rfl rfl) ?_) | (refine WP_cond rfl (fun h => ?_) (fun h => ?_) <;> (fail_if_success (have hh : true = true := h)) <;> (fail_if_success (have hh : false = false := h)) <;> (try simp only [decide_eq_true_eq, decide_eq_false_iff_not, Bool.not_eq_true', Bool.not_eq_false', Int.not_lt, Int.not_le] at h) <;> (try (exfalso; omega))))
    refine end2 rfl rfl rfl ⟨_, rfl, S.below, ⟨0, false, rfl, ?_⟩⟩
    rw [hv]
    refine .inr ⟨rfl, rfl, fun d hd => ?_⟩
    obtain ⟨j, hj⟩ := List.getElem?_of_mem (hp.mem_iff.2 hd)
    have hjl := (List.getElem?_eq_some_iff.1 hj).1
    have h2 := nth_get (l := l) (i := (j : Int)) (by omega) (by omega)
    rw [Int.toNat_natCast, hj] at h2
    rw [Option.some.inj h2]
    rcases hprev j (by omega) (by omega) with ⟨h, _⟩ | h
    · omega
    · rw [hst] at h; exact h
end Go.Proofs.YtgdmaadikcnagaaDoor
/- Check: servings that make good for all debts. -/
namespace Go.Proofs.YtgdmaadikcnagaaDoor
open Go Go.Gx Go.RowKit
set_option linter.unusedVariables false
set_option linter.unusedSimpArgs false

instance dkI : DKey Tryd.prog 3 eI := DKey.int Tryd.underlying3
section
variable {P : Program} {ρ : Operand → Value} {w w0 : World} {d : Option Tmp} {ty : TypeId} {pos : String} {af : Array Edge} {g : Option (Nat × Bool)} {T : TypeId} {s t u : Operand} {os : List Ob} {K V : Type} [DecidableEq K] {eK : K → Value} {eV : V → Value}
theorem r_lookup1S {kT eT : TypeId} {size bytes b : Nat} {z : Value} {m : K → Option V} {k : K} {v : V} [hM : IsMap P T kT eT] [hK : DKey P kT eK] [hI : TI P eT z size bytes] (hh : DMAt w b eK eV m) (hn : m k = some v) (h1 : ρ s = .map (some b)) (h2 : ρ t = eK k) :
    Go.Gx.Runs P ρ ⟨d, .lookup T s t false, ty, pos, af, g⟩ w (.ok (.value (eV v)) w) := ⟨by
  simp only [execOp, h1, h2]
  have := lookupD_run (P := P) (k := k) (T := T) false hh (hI := hI)
  refine run_bind (this.trans ?_)
  rw [hn]; rfl⟩
theorem r_lenE {kT eT : TypeId} {b : Nat} {m : K → Option V} [hM : IsMap P T kT eT] (hh : DMAt w b eK eV m) (h1 : ρ s = .map (some b)) :
    ∃ v' w', Go.Gx.Runs P ρ ⟨d, .call { callee := .builtin .len, args := #[s], argTypes := #[T] }, ty, pos, af, g⟩ w (.ok (.value v') w') ∧ ∃ n : Int, v' = .int .i64 n ∧ w' = w ∧ 0 ≤ n ∧ (n = 0 ↔ ∀ k, m k = none) := by
  obtain ⟨n, h2, h3, h4⟩ := r_lenD (P := P) (ρ := ρ) (d := d) (ty := ty) (pos := pos) (af := af) (g := g) (T := T) (i := 0) hh h1
  exact ⟨_, w, h2, n, rfl, rfl, h3, h4⟩
end
abbrev eDt (d : GDebt) : Value := .agg d.enc.toArray
def coF : List GDebt → Int → Int
  | [], _ => 0
  | d :: r, k => if d.ID = k then d.Contract else coF r k
/-- The debts of which something is left. -/
def mLf (ds : List GDebt) (left : Int → Int) : Int → Option GDebt := fun k => if 1 ≤ left k then some ⟨k, coF ds k, left k, duF ds k⟩ else none
/-- The room at each second from now on. -/
def mRf (now : Int) (os : List GOpening) (room : Int → Int) : Int → Option Int := fun k => if now ≤ k ∧ k ∈ atsO os then some (room k) else none
def getO (now k : Int) : List GOpening → Option Int
  | [] => none
  | o :: r => if o.At = k ∧ now ≤ k then some o.Count else getO now k r
theorem getD_snoc {k : Int} {d : GDebt} : ∀ {l : List GDebt}, (∀ x ∈ l, x.ID ≠ d.ID) → getD k (l ++ [d]) = if k = d.ID then some d else getD k l
  | [], _ => by
    simp only [List.nil_append, getD]
    by_cases e : d.ID = k
    · rw [if_pos e, if_pos e.symm]
    · rw [if_neg e, if_neg (fun h => e h.symm)]
  | a :: r, h => by
    have h1 := h a (List.mem_cons_self ..)
    have ih := getD_snoc (k := k) (l := r) fun x hx => h x (List.mem_cons_of_mem _ hx)
    simp only [List.cons_append, getD, ih]
    by_cases e : a.ID = k
    · rw [if_pos e, if_pos e, if_neg (fun h => h1 (e.trans h))]
    · rw [if_neg e, if_neg e]
theorem getO_snoc {now k : Int} {o : GOpening} : ∀ {l : List GOpening}, (∀ x ∈ l, x.At ≠ o.At) → getO now k (l ++ [o]) = if k = o.At ∧ now ≤ k then some o.Count else getO now k l
  | [], _ => by
    simp only [List.nil_append, getO]
    by_cases e : o.At = k ∧ now ≤ k
    · rw [if_pos e, if_pos ⟨e.1.symm, e.2⟩]
    · rw [if_neg e, if_neg (fun h => e ⟨h.1.symm, h.2⟩)]
  | a :: r, h => by
    have h1 := h a (List.mem_cons_self ..)
    have ih := getO_snoc (now := now) (k := k) (l := r) fun x hx => h x (List.mem_cons_of_mem _ hx)
    simp only [List.cons_append, getO, ih]
    by_cases e : a.At = k ∧ now ≤ k
    · rw [if_pos e, if_pos e, if_neg (fun h => h1 (e.1.trans h.1))]
    · rw [if_neg e, if_neg e]
theorem getD_mLf : ∀ {l : List GDebt}, PosD l → ∀ k, getD k l = mLf l (cnF l) k
  | [], _, k => rfl
  | a :: r, h, k => by
    have ih := getD_mLf (l := r) (fun x hx => h x (List.mem_cons_of_mem _ hx)) k
    have ha := h a (List.mem_cons_self ..)
    by_cases e : a.ID = k
    · have e1 : cnF (a :: r) k = a.Count := by unfold cnF; rw [if_pos e]
      have e2 : coF (a :: r) k = a.Contract := by unfold coF; rw [if_pos e]
      have e3 : duF (a :: r) k = a.Due := by unfold duF; rw [if_pos e]
      unfold mLf getD
      rw [e1, e2, e3, if_pos e, if_pos ha, ← e]
    · have e1 : cnF (a :: r) k = cnF r k := by conv => lhs; unfold cnF; rw [if_neg e]
      have e2 : coF (a :: r) k = coF r k := by conv => lhs; unfold coF; rw [if_neg e]
      have e3 : duF (a :: r) k = duF r k := by conv => lhs; unfold duF; rw [if_neg e]
      unfold mLf at *
      rw [e1, e2, e3, ← ih]
      conv => lhs; unfold getD
      rw [if_neg e]
theorem getO_mRf {now : Int} : ∀ {l : List GOpening}, ∀ k, getO now k l = mRf now l (rmF l) k
  | [], k => by simp [getO, mRf, atsO]
  | a :: r, k => by
    have ih := getO_mRf (now := now) (l := r) k
    unfold mRf at *
    simp only [getO, rmF, ih, atsO, List.map_cons, List.mem_cons]
    by_cases e : a.At = k
    · subst e
      by_cases c : now ≤ a.At
      · simp [c]
      · simp [c]
    · have e' : ¬ k = a.At := fun h => e h.symm
      simp [e, e']
theorem mLf_set {ds : List GDebt} {left : Int → Int} {k n : Int} (h : 1 ≤ left k - n) : mSet (mLf ds left) k ⟨k, coF ds k, left k - n, duF ds k⟩ = mLf ds (upd1 left k n) := by
  funext x
  unfold mSet mLf upd1
  by_cases e : x = k
  · subst e; simp only [if_true]; rw [if_pos h]
  · simp only [if_neg e]
theorem mLf_del {ds : List GDebt} {left : Int → Int} {k n : Int} (h : left k - n = 0) : mDel (mLf ds left) k = mLf ds (upd1 left k n) := by
  funext x
  unfold mDel mLf upd1
  by_cases e : x = k
  · subst e; simp only [if_true]; rw [if_neg (by omega)]
  · simp only [if_neg e]
theorem mRf_set {now : Int} {os : List GOpening} {room : Int → Int} {k n : Int} (h1 : now ≤ k) (h2 : k ∈ atsO os) : mSet (mRf now os room) k (room k - n) = mRf now os (upd1 room k n) := by
  funext x
  unfold mSet mRf upd1
  by_cases e : x = k
  · subst e; simp only [if_true]; rw [if_pos ⟨h1, h2⟩]
  · simp only [if_neg e]
theorem mRf_get {now : Int} {os : List GOpening} {room : Int → Int} {k : Int} (h : AccS room (atsO os)) : ∀ n : Int, 1 ≤ n → (n ≤ (mRf now os room k).getD 0 ↔ now ≤ k ∧ n ≤ room k) := fun n hn => by
  unfold mRf
  by_cases c : now ≤ k ∧ k ∈ atsO os
  · rw [if_pos c]; simp [c.1]
  · rw [if_neg c]
    constructor
    · intro h; simp at h; omega
    · rintro ⟨h1, h2⟩; exact absurd ⟨h1, h.out k (by omega)⟩ c
theorem tot_take {l : List GServing} {i : Int} (h0 : 0 ≤ i) (hi : i < l.length) : tot (l.take (i + 1).toNat) = tot (l.take i.toNat) + (nth l i).Count := by
  rw [take_snoc h0 hi, tot_append]; simp [tot]
theorem wsum_all {ds : List GDebt} (hn : (idsD ds).Nodup) : wsum (fun _ => True) (cnF ds) (idsD ds) = cntA ds := by
  induction ds with
  | nil => rfl
  | cons d r ih =>
    obtain ⟨n1, n2⟩ := List.nodup_cons.1 hn
    have e : wsum (fun _ => True) (cnF (d :: r)) (idsD r) = wsum (fun _ => True) (cnF r) (idsD r) := wsum_congr fun k hk => by
      have : d.ID ≠ k := fun e => n1 (by show d.ID ∈ _; rw [e]; exact hk)
      refine ⟨Iff.rfl, ?_⟩
      simp only [cnF]; rw [if_neg this]
    have e2 : cnF (d :: r) d.ID = d.Count := by unfold cnF; rw [if_pos rfl]
    show (if True then cnF (d :: r) d.ID else 0) + wsum (fun _ => True) (cnF (d :: r)) (idsD r) = _
    rw [e, ih n2, e2, if_pos trivial]; rfl
theorem wsum_zero {f : Int → Int} : ∀ {ks : List Int}, (∀ k ∈ ks, 0 ≤ f k) → (wsum (fun _ => True) f ks = 0 ↔ ∀ k ∈ ks, f k = 0)
  | [], _ => by simp [wsum]
  | a :: r, h => by
    have h1 := h a (List.mem_cons_self ..)
    have hr : ∀ k ∈ r, 0 ≤ f k := fun x hx => h x (List.mem_cons_of_mem _ hx)
    have ih := wsum_zero hr
    have hz := wsum_nonneg (p := fun _ => True) hr
    simp only [wsum, if_true, List.mem_cons, forall_eq_or_imp]
    rw [← ih]
    constructor
    · intro e; omega
    · intro e; omega
/-- Whether servings make good for all debts. -/
def checkI (ds : List GDebt) (os : List GOpening) (now : Int) (l : List GServing) : Bool := validI ds os now && decide (l.length ≤ 1000) && goodB now (duF ds) (cnF ds) (rmF os) l && decide (tot l = cntA ds)
theorem validI_ins {ds : List GDebt} {os : List GOpening} {now : Int} (h : validI ds os now = true) : InsOk ds os := by
  obtain ⟨b1, b2, b3, b4, b5, b6⟩ := validI_ok h
  have srt : ∀ n : Nat, (n : Int) ≤ ds.length → (ds.take n).Pairwise (fun a b => a.ID < b.ID) ∧ ∀ x ∈ ds.take n, x.ID ≤ prevD ds n := fun n => by
    induction n with
    | zero => intro _; simp
    | succ n ih =>
      intro hn
      obtain ⟨i1, i2⟩ := ih (by omega)
      have h1 := (okDa_iff (b5 n (by omega) (by omega))).1 rfl
      have h2 := prevD_next ds (i := (n : Int)) (by omega)
      have e : ds.take (n + 1) = ds.take n ++ [nth ds n] := by
        have := take_snoc (l := ds) (i := (n : Int)) (by omega) (by omega)
        rw [show ((n : Int) + 1).toNat = n + 1 by omega, Int.toNat_natCast] at this; exact this
      rw [e, show ((n + 1 : Nat) : Int) = (n : Int) + 1 by omega, h2]
      refine ⟨List.pairwise_append.2 ⟨i1, List.pairwise_singleton _ _, fun a ha b hb => ?_⟩, fun x hx => ?_⟩
      · rw [List.mem_singleton.1 hb]
        have := i2 a ha; omega
      · rcases List.mem_append.1 hx with hx | hx
        · have := i2 x hx; omega
        · rw [List.mem_singleton.1 hx]; exact Int.le_refl _
  have srtO : ∀ n : Nat, (n : Int) ≤ os.length → (os.take n).Pairwise (fun a b => a.At < b.At) ∧ ∀ x ∈ os.take n, x.At ≤ prevO os n := fun n => by
    induction n with
    | zero => intro _; simp
    | succ n ih =>
      intro hn
      obtain ⟨i1, i2⟩ := ih (by omega)
      have h1 := (okOa_iff (b6 n (by omega) (by omega))).1 rfl
      have h2 := prevO_next os (i := (n : Int)) (by omega)
      have e : os.take (n + 1) = os.take n ++ [nth os n] := by
        have := take_snoc (l := os) (i := (n : Int)) (by omega) (by omega)
        rw [show ((n : Int) + 1).toNat = n + 1 by omega, Int.toNat_natCast] at this; exact this
      rw [e, show ((n + 1 : Nat) : Int) = (n : Int) + 1 by omega, h2]
      refine ⟨List.pairwise_append.2 ⟨i1, List.pairwise_singleton _ _, fun a ha b hb => ?_⟩, fun x hx => ?_⟩
      · rw [List.mem_singleton.1 hb]
        have := i2 a ha; omega
      · rcases List.mem_append.1 hx with hx | hx
        · have := i2 x hx; omega
        · rw [List.mem_singleton.1 hx]; exact Int.le_refl _
  have s1 := (srt ds.length (Int.le_refl _)).1
  have s2 := (srtO os.length (Int.le_refl _)).1
  rw [List.take_length] at s1 s2
  refine ⟨fun d hd => ?_, List.pairwise_map.2 (s1.imp fun {a b} h e => by omega), fun o ho => ?_, s2⟩
  · obtain ⟨j, a, b, rfl⟩ := mem_drop (l := ds) (i := 0) (by omega) (by simpa using hd)
    have := (okDa_iff (b5 j a b)).1 rfl; omega
  · obtain ⟨j, a, b, rfl⟩ := mem_drop (l := os) (i := 0) (by omega) (by simpa using ho)
    have := (okOa_iff (b6 j a b)).1 rfl; omega
end Go.Proofs.YtgdmaadikcnagaaDoor
/- The walk of Check. -/
namespace Go.Proofs.YtgdmaadikcnagaaDoor
open Go Go.Gx Go.RowKit
set_option linter.unusedVariables false
set_option linter.unusedSimpArgs false

set_option maxHeartbeats 2000000 in
theorem check_run {ds : List GDebt} {os : List GOpening} {now : Int} {l : List GServing} {v1 v2 v3 : Value} {w0 : World} (hr1 : Rd fGDebt.ty w0 v1 ds) (hr2 : Rd fGOpening.ty w0 v2 os) (hr3 : Rd fGServing.ty w0 v3 l) (hl1 : ds.length ≤ 1000000) (hl2 : os.length ≤ 1000000) (hl3 : l.length ≤ 1000000000) :
    CallsV Tryd.prog 18 #[v1, v2, .int .i64 now, v3] w0 (.bool (checkI ds os now l)) := by
  have S := St.start w0
  obtain ⟨A1, c1, rfl⟩ := hr1.len
  obtain ⟨A2, c2, rfl⟩ := hr2.len
  obtain ⟨A3, c3, rfl⟩ := hr3.len
  refine CallsV.mk ?_
  refine calls_enter Tryd.func18 rfl (by intro _ h; first | exact nomatch h.1 | (obtain ⟨_, h, _⟩ := h; exact nomatch h)) Tryd.ntmps18 rfl ?_
  by_cases hv : ¬ (validI ds os now = true ∧ (l.length : Int) ≤ 1000)
  · have hE : checkI ds os now l = false := by
      unfold checkI
      by_cases h1 : validI ds os now = true
      · have : ¬ l.length ≤ 1000 := fun h2 => hv ⟨h1, by omega⟩
        simp [this]
      · have : validI ds os now = false := by simpa using h1
        rw [this]; rfl
    rw [hE]
    repeat' (first | refine WP_seq ?_ | refine WP_region ?_ | refine wl_nil ?_ | refine then_normal ?_ | refine then_ret ?_ | refine WP_ret ?_ | refine WP_condT rfl ?_ | (refine g_guard ?_; refine st_off rfl ?_) | (refine g_move ?_; refine st_move rfl ?_) | (refine g_assign ?_; refine st_assign rfl ?_) | (refine g_pick ?_; first | refine st_pickT rfl rfl ?_ | refine st_pickF rfl rfl ?_) | (refine g_b_gtr ?_; refine st_val rfl (r_gtr rfl rfl) ?_) | (refine g_un ?_; refine st_val rfl (r_not rfl) ?_) | (refine g_c_len ?_; refine st_val rfl (r_lenSlice rfl) ?_) | (refine g_callV ?_; (refine st_callV rfl (r_call3 rfl rfl rfl rfl) (validI_spec (hr1.mono S.below) (hr2.mono S.below) (by omega) (by omega)) ?_; intro w hb; replace S := S.grow hb; clear hb)) | (refine wl_split rfl rfl (fun h => ?_) (fun h => ?_) <;> (fail_if_success (have hh : true = true := h)) <;> (fail_if_success (have hh : false = false := h)) <;> (try simp only [decide_eq_true_eq, decide_eq_false_iff_not, Bool.not_eq_true', Bool.not_eq_false', Int.not_lt, Int.not_le] at h) <;> (try (exfalso; omega)) <;> (try (exfalso; exact hv ⟨by simpa using ‹_›, by omega⟩; done))) | (refine WP_cond rfl (fun h => ?_) (fun h => ?_) <;> (fail_if_success (have hh : true = true := h)) <;> (fail_if_success (have hh : false = false := h)) <;> (try simp only [decide_eq_true_eq, decide_eq_false_iff_not, Bool.not_eq_true', Bool.not_eq_false', Int.not_lt, Int.not_le] at h) <;> (try (exfalso; omega)) <;> (try (exfalso; exact hv ⟨by simpa using ‹_›, by omega⟩; done))))
    all_goals exact end1 rfl rfl ⟨rfl, S.below⟩
  obtain ⟨hv, hl1000⟩ := Classical.not_not.1 hv
  obtain ⟨b1, b2, b3, b4, b5, b6⟩ := validI_ok hv
  have hins := validI_ins hv
  have hE : checkI ds os now l = (goodB now (duF ds) (cnF ds) (rmF os) l && decide (tot l = cntA ds)) := by
    unfold checkI; rw [hv, decide_eq_true (by omega : l.length ≤ 1000)]; simp
  rw [hE]
  repeat' (first | refine WP_seq ?_ | refine WP_region ?_ | refine wl_nil ?_ | refine then_normal ?_ | refine WP_skip ?_ | (refine g_move ?_; refine st_move rfl ?_) | (refine g_assign ?_; refine st_assign rfl ?_) | (refine g_pick ?_; refine st_pickF rfl rfl ?_) | (refine g_b_gtr ?_; refine st_val rfl (r_gtr rfl rfl) ?_) | (refine g_un ?_; refine st_val rfl (r_not rfl) ?_) | (refine g_c_len ?_; refine st_val rfl (r_lenSlice rfl) ?_) | (refine g_callV ?_; (refine st_callV rfl (r_call3 rfl rfl rfl rfl) (validI_spec (hr1.mono S.below) (hr2.mono S.below) (by omega) (by omega)) ?_; intro w hb; replace S := S.grow hb; clear hb)) | (refine wl_split rfl rfl (fun h => ?_) (fun h => ?_) <;> (fail_if_success (have hh : true = true := h)) <;> (fail_if_success (have hh : false = false := h)) <;> (try simp only [decide_eq_true_eq, decide_eq_false_iff_not, Bool.not_eq_true', Bool.not_eq_false', Int.not_lt, Int.not_le] at h) <;> (try (exfalso; omega)) <;> (try (exfalso; (rw [hv] at h; cases h); done))) | (refine WP_cond rfl (fun h => ?_) (fun h => ?_) <;> (fail_if_success (have hh : true = true := h)) <;> (fail_if_success (have hh : false = false := h)) <;> (try simp only [decide_eq_true_eq, decide_eq_false_iff_not, Bool.not_eq_true', Bool.not_eq_false', Int.not_lt, Int.not_le] at h) <;> (try (exfalso; omega)) <;> (try (exfalso; (rw [hv] at h; cases h); done))))
  refine st_valE rfl (r_makeMapD eI eDt S) ?_
  rintro _ w ⟨bl, rfl, -, S'⟩; replace S := S'; clear S'
  refine st_valE rfl (r_makeMapD eI eI S) ?_
  rintro _ w ⟨br, rfl, -, S'⟩; replace S := S'; clear S'
  have hne : ∀ i : Int, 0 ≤ i → i < ds.length → ∀ x ∈ ds.take i.toNat, x.ID ≠ (nth ds i).ID := fun i h0 hi x hx e => by
    obtain ⟨j, a, b, rfl⟩ := mem_take hx (by omega)
    have hp := List.pairwise_map.1 hins.ids
    obtain ⟨hj1, hj2⟩ := List.getElem?_eq_some_iff.1 (nth_get (l := ds) (i := j) a (by omega))
    obtain ⟨hi1, hi2⟩ := List.getElem?_eq_some_iff.1 (nth_get (l := ds) (i := i) h0 hi)
    have := List.pairwise_iff_getElem.1 hp j.toNat i.toNat hj1 hi1 (by omega)
    rw [hj2, hi2] at this; exact this e
  have hneO : ∀ i : Int, 0 ≤ i → i < os.length → ∀ x ∈ os.take i.toNat, x.At ≠ (nth os i).At := fun i h0 hi x hx e => by
    obtain ⟨j, a, b, rfl⟩ := mem_take hx (by omega)
    obtain ⟨hj1, hj2⟩ := List.getElem?_eq_some_iff.1 (nth_get (l := os) (i := j) a (by omega))
    obtain ⟨hi1, hi2⟩ := List.getElem?_eq_some_iff.1 (nth_get (l := os) (i := i) h0 hi)
    have := List.pairwise_iff_getElem.1 hins.srtO j.toNat i.toNat hj1 hi1 (by omega)
    rw [hj2, hi2] at this; omega
  repeat' (first | refine WP_seq ?_ | refine WP_region ?_ | refine wl_nil ?_ | refine then_normal ?_ | refine WP_block ?_ | (refine g_move ?_; refine st_move rfl ?_) | (refine g_assign ?_; refine st_assign rfl ?_) | (refine g_c_len ?_; refine st_val rfl (r_lenSlice rfl) ?_))
  refine WP_loop (fun k σ w1 => ∃ i : Int, Has σ [(1, .slice A2 os.length c2), (2, .int .i64 now), (3, .slice A3 l.length c3), (9, .map (some bl)), (10, .map (some br)), (31, .slice A1 ds.length c1), (32, .int .i64 ds.length), (33, .int .i64 i)] ∧ St w0 w1 [dOb eI eDt bl (fun k => getD k (ds.take i.toNat)), dOb eI eI br (fun _ => none)] ∧ 0 ≤ i ∧ i ≤ ds.length ∧ k = ds.length - i.toNat) ds.length ⟨0, ⟨rfl, rfl, rfl, rfl, rfl, rfl, rfl, rfl, trivial⟩, S, by omega, by omega, by omega⟩ ?_
  clear S
  rintro k σ w1 ⟨i, hs, S, hi0, hi1, rfl⟩
  refine WP_has hs ?_
  by_cases hi : i < ds.length
  · repeat' (first | refine WP_seq ?_ | refine WP_region ?_ | refine wl_nil ?_ | refine then_normal ?_ | refine WP_skip ?_ | refine WP_block ?_ | (refine g_move ?_; refine st_move rfl ?_) | (refine g_b_lss ?_; refine st_val rfl (r_lss rfl rfl) ?_) | (refine g_fieldAddr ?_; refine st_val rfl (r_fieldAddrL rfl) ?_) | (refine g_indexAddr ?_; (refine st_val rfl (r_indexAddr (hr1.mono S.below) rfl rfl ?_ ?_) ?_; (first | omega | (simp <;> omega)); (first | omega | (simp <;> omega)))) | (refine g_load ?_; first | (refine st_val rfl (r_loadElem (hr1.mono S.below) rfl ?_ ?_) ?_; (first | omega | (simp <;> omega)); (first | omega | (simp <;> omega))) | refine st_val rfl (r_loadVar (i := 2) S rfl rfl rfl) ?_ | refine st_val rfl (r_loadVarA (i := 2) S rfl rfl rfl rfl) ?_) | (refine g_alloc ?_; refine st_valE rfl (r_alloc S) ?_; rintro _ w ⟨b, rfl, -, S'⟩; replace S := S'; clear S') | (refine g_store ?_; first | (refine st_skipE rfl (r_storeVar (i := 0) S rfl rfl rfl rfl (of_decide_eq_true rfl) (of_decide_eq_true rfl)) ?_; intro w S'; replace S := S'; clear S') | (refine st_skipE rfl (r_storeVar (i := 1) S rfl rfl rfl rfl (of_decide_eq_true rfl) (of_decide_eq_true rfl)) ?_; intro w S'; replace S := S'; clear S') | (refine st_skipE rfl (r_storeVar (i := 2) S rfl rfl rfl rfl (of_decide_eq_true rfl) (of_decide_eq_true rfl)) ?_; intro w S'; replace S := S'; clear S')) | (refine WP_cond rfl (fun h => ?_) (fun h => ?_) <;> (fail_if_success (have hh : true = true := h)) <;> (fail_if_success (have hh : false = false := h)) <;> (try simp only [decide_eq_true_eq, decide_eq_false_iff_not, Bool.not_eq_true', Bool.not_eq_false', Int.not_lt, Int.not_le] at h) <;> (try (exfalso; omega))))
    refine st_skipE rfl (r_mapUpdateD (i := 0) (k := (nth ds i).ID) (v := nth ds i) S rfl rfl rfl rfl) ?_
    intro w S'; replace S := S'; clear S'
    repeat' (first | refine WP_region ?_ | refine wl_nil ?_ | refine then_normal ?_ | refine inB_normal ?_ | (refine g_move ?_; refine st_move rfl ?_) | (refine g_b_add ?_; (refine st_val rfl (r_addN rfl rfl ?_ ?_) ?_; (first | omega | (simp <;> omega)); (first | omega | (simp <;> omega)))))
    refine ⟨⟨_, ?_, i + 1, ⟨rfl, rfl, rfl, rfl, rfl, rfl, rfl, rfl, trivial⟩, ?_, by omega, by omega, rfl⟩⟩
    · omega
    · have e : (fun k => getD k (ds.take (i + 1).toNat)) = mSet (fun k => getD k (ds.take i.toNat)) (nth ds i).ID (nth ds i) := by
        funext k
        rw [take_snoc hi0 hi, getD_snoc (hne i hi0 hi)]; rfl
      rw [e]; exact S.keep [true, true, false]
  rw [show i.toNat = ds.length by omega, List.take_length, show (fun k => getD k ds) = mLf ds (cnF ds) from funext (getD_mLf hins.pos)] at S
  clear hne
  repeat' (first | refine WP_seq ?_ | refine WP_region ?_ | refine wl_nil ?_ | refine then_normal ?_ | refine then_exit ?_ | refine inB_here ?_ | refine WP_exit ?_ | refine WP_block ?_ | (refine g_move ?_; refine st_move rfl ?_) | (refine g_b_lss ?_; refine st_val rfl (r_lss rfl rfl) ?_) | (refine g_c_len ?_; refine st_val rfl (r_lenSlice rfl) ?_) | (refine WP_cond rfl (fun h => ?_) (fun h => ?_) <;> (fail_if_success (have hh : true = true := h)) <;> (fail_if_success (have hh : false = false := h)) <;> (try simp only [decide_eq_true_eq, decide_eq_false_iff_not, Bool.not_eq_true', Bool.not_eq_false', Int.not_lt, Int.not_le] at h) <;> (try (exfalso; omega))))
  clear hs
  refine WP_loop (fun k σ w1 => ∃ i : Int, Has σ [(2, .int .i64 now), (3, .slice A3 l.length c3), (9, .map (some bl)), (10, .map (some br)), (42, .slice A2 os.length c2), (43, .int .i64 os.length), (44, .int .i64 i)] ∧ St w0 w1 [dOb eI eDt bl (mLf ds (cnF ds)), dOb eI eI br (fun k => getO now k (os.take i.toNat))] ∧ 0 ≤ i ∧ i ≤ os.length ∧ k = os.length - i.toNat) os.length ⟨0, ⟨rfl, rfl, rfl, rfl, rfl, rfl, rfl, trivial⟩, S, by omega, by omega, by omega⟩ ?_
  clear S hi0 hi1 hi
  rintro k σ w1 ⟨i, hs, S, hi0, hi1, rfl⟩
  refine WP_has hs ?_
  by_cases hi : i < os.length
  · have hstep : (fun k => getO now k (os.take (i + 1).toNat)) = fun k => if k = (nth os i).At ∧ now ≤ k then some (nth os i).Count else getO now k (os.take i.toNat) := by
      funext k
      rw [take_snoc hi0 hi, getO_snoc (hneO i hi0 hi)]
    by_cases hno : now ≤ (nth os i).At
    · repeat' (first | refine WP_seq ?_ | refine WP_region ?_ | refine wl_nil ?_ | refine then_normal ?_ | refine WP_skip ?_ | refine WP_block ?_ | (refine g_move ?_; refine st_move rfl ?_) | (refine g_b_lss ?_; refine st_val rfl (r_lss rfl rfl) ?_) | (refine g_b_geq ?_; refine st_val rfl (r_geq rfl rfl) ?_) | (refine g_fieldAddr ?_; refine st_val rfl (r_fieldAddrL rfl) ?_) | (refine g_indexAddr ?_; (refine st_val rfl (r_indexAddr (hr2.mono S.below) rfl rfl ?_ ?_) ?_; (first | omega | (simp <;> omega)); (first | omega | (simp <;> omega)))) | (refine g_load ?_; first | (refine st_val rfl (r_loadElem (hr2.mono S.below) rfl ?_ ?_) ?_; (first | omega | (simp <;> omega)); (first | omega | (simp <;> omega))) | refine st_val rfl (r_loadVar (i := 2) S rfl rfl rfl) ?_) | (refine g_alloc ?_; refine st_valE rfl (r_alloc S) ?_; rintro _ w ⟨b, rfl, -, S'⟩; replace S := S'; clear S') | (refine g_store ?_; first | (refine st_skipE rfl (r_storeVar (i := 0) S rfl rfl rfl rfl (of_decide_eq_true rfl) (of_decide_eq_true rfl)) ?_; intro w S'; replace S := S'; clear S') | (refine st_skipE rfl (r_storeVar (i := 1) S rfl rfl rfl rfl (of_decide_eq_true rfl) (of_decide_eq_true rfl)) ?_; intro w S'; replace S := S'; clear S') | (refine st_skipE rfl (r_storeVar (i := 2) S rfl rfl rfl rfl (of_decide_eq_true rfl) (of_decide_eq_true rfl)) ?_; intro w S'; replace S := S'; clear S')) | (refine WP_cond rfl (fun h => ?_) (fun h => ?_) <;> (fail_if_success (have hh : true = true := h)) <;> (fail_if_success (have hh : false = false := h)) <;> (try simp only [decide_eq_true_eq, decide_eq_false_iff_not, Bool.not_eq_true', Bool.not_eq_false', Int.not_lt, Int.not_le] at h) <;> (try (exfalso; omega))))
      refine st_skipE rfl (r_mapUpdateD (i := 1) (k := (nth os i).At) (v := (nth os i).Count) S rfl rfl rfl rfl) ?_
      intro w S'; replace S := S'; clear S'
      repeat' (first | refine WP_region ?_ | refine wl_nil ?_ | refine then_normal ?_ | refine inB_normal ?_ | (refine g_move ?_; refine st_move rfl ?_) | (refine g_b_add ?_; (refine st_val rfl (r_addN rfl rfl ?_ ?_) ?_; (first | omega | (simp <;> omega)); (first | omega | (simp <;> omega)))))
      refine ⟨⟨_, ?_, i + 1, ⟨rfl, rfl, rfl, rfl, rfl, rfl, rfl, trivial⟩, ?_, by omega, by omega, rfl⟩⟩
      · omega
      · have e : (fun k => getO now k (os.take (i + 1).toNat)) = mSet (fun k => getO now k (os.take i.toNat)) (nth os i).At (nth os i).Count := by
          rw [hstep]; funext k; unfold mSet
          by_cases e : k = (nth os i).At
          · subst e; rw [if_pos ⟨rfl, hno⟩, if_pos rfl]
          · rw [if_neg (fun h => e h.1), if_neg e]
        rw [e]; exact S.keep [true, true, false]
    · repeat' (first | refine WP_seq ?_ | refine WP_region ?_ | refine wl_nil ?_ | refine then_normal ?_ | refine inB_normal ?_ | refine WP_skip ?_ | refine WP_block ?_ | (refine g_move ?_; refine st_move rfl ?_) | (refine g_b_add ?_; (refine st_val rfl (r_addN rfl rfl ?_ ?_) ?_; (first | omega | (simp <;> omega)); (first | omega | (simp <;> omega)))) | (refine g_b_lss ?_; refine st_val rfl (r_lss rfl rfl) ?_) | (refine g_b_geq ?_; refine st_val rfl (r_geq rfl rfl) ?_) | (refine g_fieldAddr ?_; refine st_val rfl (r_fieldAddrL rfl) ?_) | (refine g_indexAddr ?_; (refine st_val rfl (r_indexAddr (hr2.mono S.below) rfl rfl ?_ ?_) ?_; (first | omega | (simp <;> omega)); (first | omega | (simp <;> omega)))) | (refine g_load ?_; first | (refine st_val rfl (r_loadElem (hr2.mono S.below) rfl ?_ ?_) ?_; (first | omega | (simp <;> omega)); (first | omega | (simp <;> omega))) | refine st_val rfl (r_loadVar (i := 2) S rfl rfl rfl) ?_) | (refine g_alloc ?_; refine st_valE rfl (r_alloc S) ?_; rintro _ w ⟨b, rfl, -, S'⟩; replace S := S'; clear S') | (refine g_store ?_; first | (refine st_skipE rfl (r_storeVar (i := 0) S rfl rfl rfl rfl (of_decide_eq_true rfl) (of_decide_eq_true rfl)) ?_; intro w S'; replace S := S'; clear S') | (refine st_skipE rfl (r_storeVar (i := 1) S rfl rfl rfl rfl (of_decide_eq_true rfl) (of_decide_eq_true rfl)) ?_; intro w S'; replace S := S'; clear S') | (refine st_skipE rfl (r_storeVar (i := 2) S rfl rfl rfl rfl (of_decide_eq_true rfl) (of_decide_eq_true rfl)) ?_; intro w S'; replace S := S'; clear S')) | (refine WP_cond rfl (fun h => ?_) (fun h => ?_) <;> (fail_if_success (have hh : true = true := h)) <;> (fail_if_success (have hh : false = false := h)) <;> (try simp only [decide_eq_true_eq, decide_eq_false_iff_not, Bool.not_eq_true', Bool.not_eq_false', Int.not_lt, Int.not_le] at h) <;> (try (exfalso; omega))))
      refine ⟨⟨_, ?_, i + 1, ⟨rfl, rfl, rfl, rfl, rfl, rfl, rfl, trivial⟩, ?_, by omega, by omega, rfl⟩⟩
      · omega
      · have e : (fun k => getO now k (os.take (i + 1).toNat)) = fun k => getO now k (os.take i.toNat) := by
          rw [hstep]; funext k
          rw [if_neg (fun h => by omega)]
        rw [e]; exact S.keep [true, true, false]
  rw [show i.toNat = os.length by omega, List.take_length, show (fun k => getO now k os) = mRf now os (rmF os) from funext getO_mRf] at S
  clear hneO
  have hA1 := accD hins.ids hins.pos
  have hA2 := accO hins.srtO.nodup hins.posO
  have hbd : ∀ k, cnF ds k ≤ 50 := fun k => by
    by_cases hk : k ∈ idsD ds
    · obtain ⟨d, hd, rfl⟩ := List.mem_map.1 hk
      obtain ⟨j, a, b, rfl⟩ := mem_drop (l := ds) (i := 0) (by omega) (by simpa using hd)
      have := (okDa_iff (b5 j a b)).1 rfl
      rw [(cnF_in hins.ids hd).1]; omega
    · rw [cnF_out hk]; omega
  have hbo : ∀ k, rmF os k ≤ 20 := fun k => by
    by_cases hk : k ∈ atsO os
    · obtain ⟨d, hd, rfl⟩ := List.mem_map.1 hk
      obtain ⟨j, a, b, rfl⟩ := mem_drop (l := os) (i := 0) (by omega) (by simpa using hd)
      have := (okOa_iff (b6 j a b)).1 rfl
      rw [rmF_in hins.srtO.nodup hd]; omega
    · rw [rmF_out hk]; omega
  have hsum := wsum_all hins.ids
  repeat' (first | refine WP_seq ?_ | refine WP_region ?_ | refine wl_nil ?_ | refine then_normal ?_ | refine then_exit ?_ | refine inB_here ?_ | refine WP_exit ?_ | refine WP_block ?_ | (refine g_move ?_; refine st_move rfl ?_) | (refine g_b_lss ?_; refine st_val rfl (r_lss rfl rfl) ?_) | (refine g_c_len ?_; refine st_val rfl (r_lenSlice rfl) ?_) | (refine WP_cond rfl (fun h => ?_) (fun h => ?_) <;> (fail_if_success (have hh : true = true := h)) <;> (fail_if_success (have hh : false = false := h)) <;> (try simp only [decide_eq_true_eq, decide_eq_false_iff_not, Bool.not_eq_true', Bool.not_eq_false', Int.not_lt, Int.not_le] at h) <;> (try (exfalso; omega))))
  clear hs
  refine WP_loop (fun k σ w1 => ∃ (i : Int) (left room : Int → Int), Has σ [(9, .map (some bl)), (10, .map (some br)), (58, .slice A3 l.length c3), (59, .int .i64 l.length), (60, .int .i64 i)] ∧ St w0 w1 [dOb eI eDt bl (mLf ds left), dOb eI eI br (mRf now os room)] ∧ AccS left (idsD ds) ∧ AccS room (atsO os) ∧ (∀ k, left k ≤ 50) ∧ (∀ k, room k ≤ 20) ∧
    goodB now (duF ds) (cnF ds) (rmF os) l = goodB now (duF ds) left room (l.drop i.toNat) ∧ wsum (fun _ => True) left (idsD ds) + tot (l.take i.toNat) = cntA ds ∧ 0 ≤ i ∧ i ≤ l.length ∧ k = l.length - i.toNat) l.length ⟨0, _, _, ⟨rfl, rfl, rfl, rfl, rfl, trivial⟩, S, hA1, hA2, hbd, hbo, by simp, by simp [tot, hsum], by omega, by omega, by omega⟩ ?_
  clear S hi0 hi1 hi hA1 hA2 hbd hbo hsum
  rintro k σ w1 ⟨i, left, room, hs, S, hA1, hA2, hbd, hbo, hg, hsum, hi0, hi1, rfl⟩
  refine WP_has hs ?_
  by_cases hi : i < l.length
  · rw [drop_nth hi0 hi] at hg
    have hgs : goodB now (duF ds) left room (nth l i :: l.drop (i + 1).toNat) = (okSv now (duF ds) left room (nth l i) && goodB now (duF ds) (upd1 left (nth l i).Debt (nth l i).Count) (upd1 room (nth l i).At (nth l i).Count) (l.drop (i + 1).toNat)) := rfl
    have hmg := mRf_get (now := now) (k := (nth l i).At) hA2
    cases hok : okSv now (duF ds) left room (nth l i) with
    | false =>
      have hfin : goodB now (duF ds) (cnF ds) (rmF os) l = false := by rw [hg, hgs, hok]; rfl
      have hno := of_decide_eq_false hok
      have hb := hbd (nth l i).Debt
      rw [hfin, Bool.false_and]
      by_cases hh : 1 ≤ left (nth l i).Debt
      · have hml : mLf ds left (nth l i).Debt = some ⟨(nth l i).Debt, coF ds (nth l i).Debt, left (nth l i).Debt, duF ds (nth l i).Debt⟩ := if_pos hh
        repeat' (first | refine WP_seq ?_ | refine WP_region ?_ | refine wl_nil ?_ | refine then_normal ?_ | refine then_ret ?_ | refine inB_ret ?_ | refine WP_ret ?_ | refine WP_skip ?_ | refine WP_block ?_ | refine WP_condT rfl ?_ | (refine g_guard ?_; refine st_off rfl ?_) | (refine g_move ?_; refine st_move rfl ?_) | (refine g_assign ?_; refine st_assign rfl ?_) | (refine g_pick ?_; first | refine st_pickT rfl rfl ?_ | refine st_pickF rfl rfl ?_) | (refine g_b_lss ?_; refine st_val rfl (r_lss rfl rfl) ?_) | (refine g_b_gtr ?_; refine st_val rfl (r_gtr rfl rfl) ?_) | (refine g_b_geq ?_; refine st_val rfl (r_geq rfl rfl) ?_) | (refine g_un ?_; refine st_val rfl (r_not rfl) ?_) | (refine g_extract ?_; refine st_val rfl (r_extract rfl rfl) ?_) | (refine g_fieldAddr ?_; refine st_val rfl (r_fieldAddrL rfl) ?_) | (refine g_indexAddr ?_; (refine st_val rfl (r_indexAddr (hr3.mono S.below) rfl rfl ?_ ?_) ?_; (first | omega | (simp <;> omega)); (first | omega | (simp <;> omega)))) | (refine g_load ?_; first | (refine st_val rfl (r_loadElem (hr3.mono S.below) rfl ?_ ?_) ?_; (first | omega | (simp <;> omega)); (first | omega | (simp <;> omega))) | refine st_val rfl (r_loadVar (i := 2) S rfl rfl rfl) ?_ | refine st_val rfl (r_loadVar (i := 3) S rfl rfl rfl) ?_) | (refine g_alloc ?_; refine st_valE rfl (r_alloc S) ?_; rintro _ w ⟨b, rfl, -, S'⟩; replace S := S'; clear S') | (refine g_store ?_; first | (refine st_skipE rfl (r_storeVar (i := 0) S rfl rfl rfl rfl (of_decide_eq_true rfl) (of_decide_eq_true rfl)) ?_; intro w S'; replace S := S'; clear S') | (refine st_skipE rfl (r_storeVar (i := 1) S rfl rfl rfl rfl (of_decide_eq_true rfl) (of_decide_eq_true rfl)) ?_; intro w S'; replace S := S'; clear S') | (refine st_skipE rfl (r_storeVar (i := 2) S rfl rfl rfl rfl (of_decide_eq_true rfl) (of_decide_eq_true rfl)) ?_; intro w S'; replace S := S'; clear S') | (refine st_skipE rfl (r_storeVar (i := 3) S rfl rfl rfl rfl (of_decide_eq_true rfl) (of_decide_eq_true rfl)) ?_; intro w S'; replace S := S'; clear S')) | (refine st_val rfl (r_lookupSM (k := (nth l i).Debt) (S.dmAt (i := 0) rfl) hml rfl rfl) ?_) | (refine st_val rfl (r_lookup1M (k := (nth l i).At) 0 rfl (S.dmAt (i := 1) rfl) rfl rfl) ?_) | (refine wl_split rfl rfl (fun h => ?_) (fun h => ?_) <;> (fail_if_success (have hh : true = true := h)) <;> (fail_if_success (have hh : false = false := h)) <;> (try simp only [decide_eq_true_eq, decide_eq_false_iff_not, Bool.not_eq_true', Bool.not_eq_false', Int.not_lt, Int.not_le] at h) <;> (try (exfalso; omega)) <;> (try (exfalso; (have k := (hmg (nth l i).Count (by omega)).1 (by omega); omega); done))) | (refine WP_cond rfl (fun h => ?_) (fun h => ?_) <;> (fail_if_success (have hh : true = true := h)) <;> (fail_if_success (have hh : false = false := h)) <;> (try simp only [decide_eq_true_eq, decide_eq_false_iff_not, Bool.not_eq_true', Bool.not_eq_false', Int.not_lt, Int.not_le] at h) <;> (try (exfalso; omega)) <;> (try (exfalso; (have k := (hmg (nth l i).Count (by omega)).1 (by omega); omega); done))))
        all_goals exact end1 rfl rfl ⟨rfl, S.below⟩
      · have hml : mLf ds left (nth l i).Debt = none := if_neg hh
        repeat' (first | refine WP_seq ?_ | refine WP_region ?_ | refine wl_nil ?_ | refine then_normal ?_ | refine then_ret ?_ | refine inB_ret ?_ | refine WP_ret ?_ | refine WP_skip ?_ | refine WP_block ?_ | refine WP_condT rfl ?_ | (refine g_guard ?_; refine st_off rfl ?_) | (refine g_move ?_; refine st_move rfl ?_) | (refine g_assign ?_; refine st_assign rfl ?_) | (refine g_pick ?_; refine st_pickT rfl rfl ?_) | (refine g_b_lss ?_; refine st_val rfl (r_lss rfl rfl) ?_) | (refine g_un ?_; refine st_val rfl (r_not rfl) ?_) | (refine g_extract ?_; refine st_val rfl (r_extract rfl rfl) ?_) | (refine g_fieldAddr ?_; refine st_val rfl (r_fieldAddrL rfl) ?_) | (refine g_indexAddr ?_; (refine st_val rfl (r_indexAddr (hr3.mono S.below) rfl rfl ?_ ?_) ?_; (first | omega | (simp <;> omega)); (first | omega | (simp <;> omega)))) | (refine g_load ?_; first | (refine st_val rfl (r_loadElem (hr3.mono S.below) rfl ?_ ?_) ?_; (first | omega | (simp <;> omega)); (first | omega | (simp <;> omega))) | refine st_val rfl (r_loadVar (i := 2) S rfl rfl rfl) ?_) | (refine g_alloc ?_; refine st_valE rfl (r_alloc S) ?_; rintro _ w ⟨b, rfl, -, S'⟩; replace S := S'; clear S') | (refine g_store ?_; first | (refine st_skipE rfl (r_storeVar (i := 0) S rfl rfl rfl rfl (of_decide_eq_true rfl) (of_decide_eq_true rfl)) ?_; intro w S'; replace S := S'; clear S') | (refine st_skipE rfl (r_storeVar (i := 1) S rfl rfl rfl rfl (of_decide_eq_true rfl) (of_decide_eq_true rfl)) ?_; intro w S'; replace S := S'; clear S') | (refine st_skipE rfl (r_storeVar (i := 2) S rfl rfl rfl rfl (of_decide_eq_true rfl) (of_decide_eq_true rfl)) ?_; intro w S'; replace S := S'; clear S') | (refine st_skipE rfl (r_storeVar (i := 3) S rfl rfl rfl rfl (of_decide_eq_true rfl) (of_decide_eq_true rfl)) ?_; intro w S'; replace S := S'; clear S')) | (refine st_val rfl (r_lookupNM (k := (nth l i).Debt) (S.dmAt (i := 0) rfl) hml rfl rfl) ?_) | (refine WP_cond rfl (fun h => ?_) (fun h => ?_) <;> (fail_if_success (have hh : true = true := h)) <;> (fail_if_success (have hh : false = false := h)) <;> (try simp only [decide_eq_true_eq, decide_eq_false_iff_not, Bool.not_eq_true', Bool.not_eq_false', Int.not_lt, Int.not_le] at h) <;> (try (exfalso; omega))))
        all_goals exact end1 rfl rfl ⟨rfl, S.below⟩
    | true =>
      obtain ⟨g1, g2, g3, g4, g5⟩ := of_decide_eq_true hok
      have hb := hbd (nth l i).Debt
      have hb2 := hbo (nth l i).At
      have hml : mLf ds left (nth l i).Debt = some ⟨(nth l i).Debt, coF ds (nth l i).Debt, left (nth l i).Debt, duF ds (nth l i).Debt⟩ := if_pos (by omega)
      have hat : (nth l i).At ∈ atsO os := hA2.out _ (by omega)
      have hrv : mRf now os room (nth l i).At = some (room (nth l i).At) := if_pos ⟨g2, hat⟩
      rw [hgs, hok, Bool.true_and] at hg
      have hA1' := hA1.upd g1 g4
      have hA2' := hA2.upd g1 g5
      have hbd' : ∀ k, upd1 left (nth l i).Debt (nth l i).Count k ≤ 50 := fun k => by
        have := hbd k
        unfold upd1; split <;> omega
      have hbo' : ∀ k, upd1 room (nth l i).At (nth l i).Count k ≤ 20 := fun k => by
        have := hbo k
        unfold upd1; split <;> omega
      have hsum' : wsum (fun _ => True) (upd1 left (nth l i).Debt (nth l i).Count) (idsD ds) + tot (l.take (i + 1).toNat) = cntA ds := by
        rw [wsum_upd hA1.nd (hA1.out _ (by omega)), tot_take hi0 hi, if_pos trivial]; omega
      repeat' (first | refine WP_seq ?_ | refine WP_region ?_ | refine wl_nil ?_ | refine then_normal ?_ | refine WP_skip ?_ | refine WP_block ?_ | (refine g_move ?_; refine st_move rfl ?_) | (refine g_assign ?_; refine st_assign rfl ?_) | (refine g_pick ?_; refine st_pickF rfl rfl ?_) | (refine g_b_sub ?_; (refine st_val rfl (r_subN rfl rfl ?_ ?_) ?_; (first | omega | (simp <;> omega)); (first | omega | (simp <;> omega)))) | (refine g_b_lss ?_; refine st_val rfl (r_lss rfl rfl) ?_) | (refine g_b_gtr ?_; refine st_val rfl (r_gtr rfl rfl) ?_) | (refine g_b_geq ?_; refine st_val rfl (r_geq rfl rfl) ?_) | (refine g_un ?_; refine st_val rfl (r_not rfl) ?_) | (refine g_extract ?_; refine st_val rfl (r_extract rfl rfl) ?_) | (refine g_fieldAddr ?_; refine st_val rfl (r_fieldAddrL rfl) ?_) | (refine g_indexAddr ?_; (refine st_val rfl (r_indexAddr (hr3.mono S.below) rfl rfl ?_ ?_) ?_; (first | omega | (simp <;> omega)); (first | omega | (simp <;> omega)))) | (refine g_load ?_; first | (refine st_val rfl (r_loadElem (hr3.mono S.below) rfl ?_ ?_) ?_; (first | omega | (simp <;> omega)); (first | omega | (simp <;> omega))) | refine st_val rfl (r_loadVar (i := 2) S rfl rfl rfl) ?_ | refine st_val rfl (r_loadVar (i := 3) S rfl rfl rfl) ?_) | (refine g_alloc ?_; refine st_valE rfl (r_alloc S) ?_; rintro _ w ⟨b, rfl, -, S'⟩; replace S := S'; clear S') | (refine g_store ?_; first | (refine st_skipE rfl (r_storeVar (i := 0) S rfl rfl rfl rfl (of_decide_eq_true rfl) (of_decide_eq_true rfl)) ?_; intro w S'; replace S := S'; clear S') | (refine st_skipE rfl (r_storeVar (i := 1) S rfl rfl rfl rfl (of_decide_eq_true rfl) (of_decide_eq_true rfl)) ?_; intro w S'; replace S := S'; clear S') | (refine st_skipE rfl (r_storeVar (i := 2) S rfl rfl rfl rfl (of_decide_eq_true rfl) (of_decide_eq_true rfl)) ?_; intro w S'; replace S := S'; clear S') | (refine st_skipE rfl (r_storeVar (i := 3) S rfl rfl rfl rfl (of_decide_eq_true rfl) (of_decide_eq_true rfl)) ?_; intro w S'; replace S := S'; clear S')) | (refine st_val rfl (r_lookupSM (k := (nth l i).Debt) (S.dmAt (i := 0) rfl) hml rfl rfl) ?_) | (refine st_val rfl (r_lookup1S (k := (nth l i).At) (S.dmAt (i := 1) rfl) hrv rfl rfl) ?_) | (refine wl_split rfl rfl (fun h => ?_) (fun h => ?_) <;> (fail_if_success (have hh : true = true := h)) <;> (fail_if_success (have hh : false = false := h)) <;> (try simp only [decide_eq_true_eq, decide_eq_false_iff_not, Bool.not_eq_true', Bool.not_eq_false', Int.not_lt, Int.not_le] at h) <;> (try (exfalso; omega)) <;> (try (exfalso; omega; done))) | (refine WP_cond rfl (fun h => ?_) (fun h => ?_) <;> (fail_if_success (have hh : true = true := h)) <;> (fail_if_success (have hh : false = false := h)) <;> (try simp only [decide_eq_true_eq, decide_eq_false_iff_not, Bool.not_eq_true', Bool.not_eq_false', Int.not_lt, Int.not_le] at h) <;> (try (exfalso; omega)) <;> (try (exfalso; omega; done))))
      refine st_skipE rfl (r_mapUpdateD (i := 1) (k := (nth l i).At) (v := room (nth l i).At - (nth l i).Count) S rfl rfl rfl rfl) ?_
      intro w S'; replace S := S'; clear S'
      by_cases hz : left (nth l i).Debt - (nth l i).Count = 0
      · repeat' (first | refine WP_seq ?_ | refine WP_region ?_ | refine wl_nil ?_ | refine then_normal ?_ | (refine g_move ?_; refine st_move rfl ?_) | (refine g_b_sub ?_; (refine st_val rfl (r_subN rfl rfl ?_ ?_) ?_; (first | omega | (simp <;> omega)); (first | omega | (simp <;> omega)))) | (refine g_b_eql ?_; refine st_val rfl (r_eql rfl rfl) ?_) | (refine g_fieldAddr ?_; refine st_val rfl (r_fieldAddrL rfl) ?_) | (refine g_load ?_; first | refine st_val rfl (r_loadVar (i := 2) S rfl rfl rfl) ?_ | refine st_val rfl (r_loadVar (i := 3) S rfl rfl rfl) ?_) | (refine g_store ?_; first | (refine st_skipE rfl (r_storeVar (i := 0) S rfl rfl rfl rfl (of_decide_eq_true rfl) (of_decide_eq_true rfl)) ?_; intro w S'; replace S := S'; clear S') | (refine st_skipE rfl (r_storeVar (i := 1) S rfl rfl rfl rfl (of_decide_eq_true rfl) (of_decide_eq_true rfl)) ?_; intro w S'; replace S := S'; clear S') | (refine st_skipE rfl (r_storeVar (i := 2) S rfl rfl rfl rfl (of_decide_eq_true rfl) (of_decide_eq_true rfl)) ?_; intro w S'; replace S := S'; clear S') | (refine st_skipE rfl (r_storeVar (i := 3) S rfl rfl rfl rfl (of_decide_eq_true rfl) (of_decide_eq_true rfl)) ?_; intro w S'; replace S := S'; clear S')) | (refine WP_cond rfl (fun h => ?_) (fun h => ?_) <;> (fail_if_success (have hh : true = true := h)) <;> (fail_if_success (have hh : false = false := h)) <;> (try simp only [decide_eq_true_eq, decide_eq_false_iff_not, Bool.not_eq_true', Bool.not_eq_false', Int.not_lt, Int.not_le] at h) <;> (try (exfalso; omega)) <;> (try (exfalso; omega; done))))
        refine st_valE rfl (r_deleteD (i := 0) (k := (nth l i).Debt) S rfl rfl rfl) ?_
        intro _ w S'; replace S := S'; clear S'
        repeat' (first | refine WP_region ?_ | refine wl_nil ?_ | refine then_normal ?_ | refine inB_normal ?_ | (refine g_move ?_; refine st_move rfl ?_) | (refine g_b_add ?_; (refine st_val rfl (r_addN rfl rfl ?_ ?_) ?_; (first | omega | (simp <;> omega)); (first | omega | (simp <;> omega)))))
        refine ⟨⟨_, ?_, i + 1, _, _, ⟨rfl, rfl, rfl, rfl, rfl, trivial⟩, ?_, hA1', hA2', hbd', hbo', hg, hsum', by omega, by omega, rfl⟩⟩
        · omega
        · rw [← mLf_del hz, ← mRf_set g2 hat]; exact S.keep [true, true, false, false]
      · repeat' (first | refine WP_seq ?_ | refine WP_region ?_ | refine wl_nil ?_ | refine then_normal ?_ | (refine g_move ?_; refine st_move rfl ?_) | (refine g_b_sub ?_; (refine st_val rfl (r_subN rfl rfl ?_ ?_) ?_; (first | omega | (simp <;> omega)); (first | omega | (simp <;> omega)))) | (refine g_b_eql ?_; refine st_val rfl (r_eql rfl rfl) ?_) | (refine g_fieldAddr ?_; refine st_val rfl (r_fieldAddrL rfl) ?_) | (refine g_load ?_; first | refine st_val rfl (r_loadVar (i := 2) S rfl rfl rfl) ?_ | refine st_val rfl (r_loadVar (i := 3) S rfl rfl rfl) ?_ | refine st_val rfl (r_loadVarA (i := 3) S rfl rfl rfl rfl) ?_) | (refine g_store ?_; first | (refine st_skipE rfl (r_storeVar (i := 0) S rfl rfl rfl rfl (of_decide_eq_true rfl) (of_decide_eq_true rfl)) ?_; intro w S'; replace S := S'; clear S') | (refine st_skipE rfl (r_storeVar (i := 1) S rfl rfl rfl rfl (of_decide_eq_true rfl) (of_decide_eq_true rfl)) ?_; intro w S'; replace S := S'; clear S') | (refine st_skipE rfl (r_storeVar (i := 2) S rfl rfl rfl rfl (of_decide_eq_true rfl) (of_decide_eq_true rfl)) ?_; intro w S'; replace S := S'; clear S') | (refine st_skipE rfl (r_storeVar (i := 3) S rfl rfl rfl rfl (of_decide_eq_true rfl) (of_decide_eq_true rfl)) ?_; intro w S'; replace S := S'; clear S')) | (refine WP_cond rfl (fun h => ?_) (fun h => ?_) <;> (fail_if_success (have hh : true = true := h)) <;> (fail_if_success (have hh : false = false := h)) <;> (try simp only [decide_eq_true_eq, decide_eq_false_iff_not, Bool.not_eq_true', Bool.not_eq_false', Int.not_lt, Int.not_le] at h) <;> (try (exfalso; omega)) <;> (try (exfalso; omega; done))))
        refine st_skipE rfl (r_mapUpdateD (i := 0) (k := (nth l i).Debt) (v := ⟨(nth l i).Debt, coF ds (nth l i).Debt, left (nth l i).Debt - (nth l i).Count, duF ds (nth l i).Debt⟩) S rfl rfl rfl rfl) ?_
        intro w S'; replace S := S'; clear S'
        repeat' (first | refine WP_region ?_ | refine wl_nil ?_ | refine then_normal ?_ | refine inB_normal ?_ | (refine g_move ?_; refine st_move rfl ?_) | (refine g_b_add ?_; (refine st_val rfl (r_addN rfl rfl ?_ ?_) ?_; (first | omega | (simp <;> omega)); (first | omega | (simp <;> omega)))))
        refine ⟨⟨_, ?_, i + 1, _, _, ⟨rfl, rfl, rfl, rfl, rfl, trivial⟩, ?_, hA1', hA2', hbd', hbo', hg, hsum', by omega, by omega, rfl⟩⟩
        · omega
        · rw [← mLf_set (n := (nth l i).Count) (by omega), ← mRf_set g2 hat]; exact S.keep [true, true, false, false]
  · rw [show i.toNat = l.length by omega, List.drop_length] at hg
    rw [show i.toNat = l.length by omega, List.take_length] at hsum
    have hfin : goodB now (duF ds) (cnF ds) (rmF os) l = true := hg
    rw [hfin, Bool.true_and]
    have hz := wsum_zero hA1.pos
    repeat' (first | refine WP_seq ?_ | refine WP_region ?_ | refine wl_nil ?_ | refine then_normal ?_ | refine then_exit ?_ | refine inB_here ?_ | refine WP_exit ?_ | (refine g_move ?_; refine st_move rfl ?_) | (refine g_b_lss ?_; refine st_val rfl (r_lss rfl rfl) ?_) | (refine WP_cond rfl (fun h => ?_) (fun h => ?_) <;> (fail_if_success (have hh : true = true := h)) <;> (fail_if_success (have hh : false = false := h)) <;> (try simp only [decide_eq_true_eq, decide_eq_false_iff_not, Bool.not_eq_true', Bool.not_eq_false', Int.not_lt, Int.not_le] at h) <;> (try (exfalso; omega))))
    refine st_valE rfl (r_lenE (S.dmAt (i := 0) rfl) rfl) ?_
    rintro _ w2 ⟨n, rfl, rfl, hn0, hn⟩
    repeat' (first | refine wl_nil ?_ | refine then_normal ?_ | refine WP_ret ?_ | (refine g_assign ?_; refine st_assign rfl ?_) | (refine g_b_eql ?_; refine st_val rfl (r_eql rfl rfl) ?_))
    refine end1 rfl rfl ⟨rb ?_, S.below⟩
    rw [decide_eq_decide, hn]
    constructor
    · intro h
      have : wsum (fun _ => True) left (idsD ds) = 0 := hz.2 fun k hk => by
        have h1 := h k
        have h2 := hA1.pos k hk
        unfold mLf at h1
        split at h1
        · cases h1
        · omega
      omega
    · intro h k
      have h1 := hz.1 (by omega)
      unfold mLf
      rw [if_neg]
      intro h2
      have := h1 k (hA1.out k h2)
      omega
end Go.Proofs.YtgdmaadikcnagaaDoor
/- The books: what is read of them. -/
namespace Go.Proofs.YtgdmaadikcnagaaDoor
open Go Go.Gx Go.RowKit
set_option linter.unusedVariables false
set_option linter.unusedSimpArgs false

def opM (l : List GDebt) : Int → Option GDebt := fun k => getD k l
def usM (u : Int → Bool) : Int → Option Bool := fun k => if u k = true then some true else none
theorem usM_get (u : Int → Bool) (k : Int) : (usM u k).getD false = u k := by
  unfold usM; cases u k <;> rfl
abbrev bkC (b1 b2 : Nat) (last : Int) (s : GSums) : List Value := [.map (some b1), .map (some b2), .int .i64 last, .int .i64 s.Owed, .int .i64 s.Served, .int .i64 s.Moved, .int .i64 s.Paid, .int .i64 s.Open]
/-- The books in a world. -/
structure BkAt (w : World) (bb b1 b2 : Nat) (last : Int) (s : Bk) : Prop where
  box : CellsAt w ⟨bb, 0, none⟩ (bkC b1 b2 last s.sums)
  op : DMAt w b1 eI eDt (opM s.op)
  us : DMAt w b2 eI eB (usM s.used)
theorem BkAt.mono {w w' : World} {bb b1 b2 : Nat} {last : Int} {s : Bk} (h : BkAt w bb b1 b2 last s) (hb : Below w.heap.size w w') : BkAt w' bb b1 b2 last s := ⟨h.box.mono hb, h.op.mono hb, h.us.mono hb⟩
abbrev BKs (bb b1 b2 : Nat) (last : Int) (s : Bk) (ex : List Ob) : List Ob := .var bb 93 (bkC b1 b2 last s.sums) :: dOb eI eDt b1 (opM s.op) :: dOb eI eB b2 (usM s.used) :: ex
theorem St.bk {w0 w : World} {bb b1 b2 : Nat} {last : Int} {s : Bk} {ex : List Ob} (S : St w0 w (BKs bb b1 b2 last s ex)) : BkAt w bb b1 b2 last s := ⟨S.var (i := 0) rfl, S.dmAt (i := 1) rfl, S.dmAt (i := 2) rfl⟩
section
variable {w0 : World} {bb b1 b2 : Nat} {last : Int} {s : Bk} {x : GDeed}
theorem fresh_spec {id : Int} (hB : BkAt w0 bb b1 b2 last s) : CallsV Tryd.prog 126 #[.pointer (some ⟨bb, 0, none⟩), .int .i64 id] w0 (.bool (freshB s id)) := by
  have S := St.start w0
  refine CallsV.mk ?_
  refine calls_enter Tryd.func126 rfl (by intro _ h; first | exact nomatch h.1 | (obtain ⟨_, h, _⟩ := h; exact nomatch h)) Tryd.ntmps126 rfl ?_
  have hu := usM_get s.used id
  repeat' (first | refine WP_seq ?_ | refine WP_region ?_ | refine wl_nil ?_ | refine then_normal ?_ | refine WP_ret ?_ | (refine g_guard ?_; refine st_off rfl ?_) | (refine g_move ?_; refine st_move rfl ?_) | (refine g_assign ?_; refine st_assign rfl ?_) | (refine g_pick ?_; first | refine st_pickT rfl rfl ?_ | refine st_pickF rfl rfl ?_) | (refine g_nilCheck ?_; refine st_val rfl (r_nilCheck rfl) ?_) | (refine g_un ?_; refine st_val rfl (r_not rfl) ?_) | (refine g_fieldAddr ?_; refine st_val rfl (r_fieldAddrL rfl) ?_) | (refine g_load ?_; refine st_val rfl (r_loadAt (hB.box.mono S.below) rfl rfl) ?_) | (refine g_callV ?_; (refine st_callV rfl (r_call3 rfl rfl rfl rfl) (bt_spec) ?_; intro w hb; replace S := S.grow hb; clear hb)) | (refine st_val rfl (r_lookup1M (k := id) false rfl (hB.us.mono S.below) rfl rfl) ?_) | (refine wl_split rfl rfl (fun h => ?_) (fun h => ?_) <;> (fail_if_success (have hh : true = true := h)) <;> (fail_if_success (have hh : false = false := h)) <;> (try simp only [decide_eq_true_eq, decide_eq_false_iff_not, Bool.not_eq_true', Bool.not_eq_false', Int.not_lt, Int.not_le] at h) <;> (try (exfalso; omega))))
  all_goals
    refine end1 rfl rfl ⟨rb ?_, S.below⟩
    unfold freshB
  all_goals simp_all
theorem has_spec (hB : BkAt w0 bb b1 b2 last s) : CallsV Tryd.prog 132 #[.pointer (some ⟨bb, 0, none⟩), .agg x.enc.toArray] w0 (.bool (hasB s x)) := by
  have S := St.start w0
  refine CallsV.mk ?_
  refine calls_enter Tryd.func132 rfl (by intro _ h; first | exact nomatch h.1 | (obtain ⟨_, h, _⟩ := h; exact nomatch h)) Tryd.ntmps132 rfl ?_
  cases hc : getD x.ID s.op with
  | none =>
    repeat' (first | refine WP_seq ?_ | refine WP_region ?_ | refine wl_nil ?_ | refine then_normal ?_ | refine WP_ret ?_ | (refine WP_drawJ (fun w' => St w0 w' [.var b 36 x.enc]) [0,1,2,3,4,5,6,7,8,9] [10,11] [12] (by kernel_rfl) (by decide) (by decide +kernel) (fun w' hb => (S.grow hb).keep [true]) ?_; intro w hb; replace S := S.grow hb; clear hb) | refine jq_nil ?_ | refine wj_nil ?_ | (refine g_guard ?_; refine st_off rfl ?_) | (refine g_move ?_; refine st_move rfl ?_) | (refine g_assign ?_; refine st_assign rfl ?_) | (refine g_pick ?_; refine st_pickF rfl rfl ?_) | (refine gj_move ?_; refine jq_val rfl (fun w' hJ => ⟨rfl⟩) ?_) | (refine gj_assign ?_; refine jq_val rfl (fun w' hJ => ⟨rfl⟩) ?_) | (refine gj_nilCheck ?_; refine jq_val rfl (fun w' hJ => r_nilCheck rfl) ?_) | (refine gj_extract ?_; refine jq_val rfl (fun w' hJ => r_extract rfl rfl) ?_) | (refine gj_fieldAddr ?_; refine jq_val rfl (fun w' hJ => r_fieldAddrL rfl) ?_) | (refine gj_load ?_; first | refine jq_val rfl (fun w' hJ => r_loadAt (hB.box.mono hJ.below) rfl rfl) ?_ | refine jq_val rfl (fun w' hJ => r_loadVar (i := 0) hJ rfl rfl rfl) ?_) | (refine g_box ?_; refine st_valE rfl (r_box S rfl) ?_; rintro _ w ⟨b, rfl, -, S'⟩; replace S := S'; clear S') | (refine jq_val rfl (fun w' hJ => r_lookupNM (k := x.ID) (hB.op.mono hJ.below) hc rfl rfl) ?_) | (refine wj_valE rfl (r_alloc S) ?_; rintro _ w ⟨b', rfl, -, S'⟩; refine ⟨S'.keep [true], ?_⟩; replace S := S'; clear S') | (refine wj_skipE rfl (r_storeVar (i := 1) S rfl rfl rfl rfl (of_decide_eq_true rfl) (of_decide_eq_true rfl)) ?_; intro w S'; refine ⟨S'.keep [true], ?_⟩; replace S := S'; clear S'))
    all_goals
      refine end1 rfl rfl ⟨rb ?_, S.below⟩
      unfold hasB; rw [hc]
  | some d =>
    repeat' (first | refine WP_seq ?_ | refine WP_region ?_ | refine wl_nil ?_ | refine then_normal ?_ | refine WP_ret ?_ | (refine WP_drawJ (fun w' => St w0 w' [.var b 36 x.enc]) [0,1,2,3,4,5,6,7,8,9] [10,11] [12] (by kernel_rfl) (by decide) (by decide +kernel) (fun w' hb => (S.grow hb).keep [true]) ?_; intro w hb; replace S := S.grow hb; clear hb) | refine jq_nil ?_ | refine wj_nil ?_ | (refine g_guard ?_; refine st_off rfl ?_) | (refine g_move ?_; refine st_move rfl ?_) | (refine g_assign ?_; refine st_assign rfl ?_) | (refine g_pick ?_; first | refine st_pickT rfl rfl ?_ | refine st_pickF rfl rfl ?_) | (refine g_b_eql ?_; refine st_val rfl (r_eql rfl rfl) ?_) | (refine g_b_geq ?_; refine st_val rfl (r_geq rfl rfl) ?_) | (refine g_fieldAddr ?_; refine st_val rfl (r_fieldAddrL rfl) ?_) | (refine g_load ?_; first | refine st_val rfl (r_loadVar (i := 0) S rfl rfl rfl) ?_ | refine st_val rfl (r_loadVar (i := 1) S rfl rfl rfl) ?_) | (refine gj_move ?_; refine jq_val rfl (fun w' hJ => ⟨rfl⟩) ?_) | (refine gj_assign ?_; refine jq_val rfl (fun w' hJ => ⟨rfl⟩) ?_) | (refine gj_nilCheck ?_; refine jq_val rfl (fun w' hJ => r_nilCheck rfl) ?_) | (refine gj_extract ?_; refine jq_val rfl (fun w' hJ => r_extract rfl rfl) ?_) | (refine gj_fieldAddr ?_; refine jq_val rfl (fun w' hJ => r_fieldAddrL rfl) ?_) | (refine gj_load ?_; first | refine jq_val rfl (fun w' hJ => r_loadAt (hB.box.mono hJ.below) rfl rfl) ?_ | refine jq_val rfl (fun w' hJ => r_loadVar (i := 0) hJ rfl rfl rfl) ?_) | (refine g_box ?_; refine st_valE rfl (r_box S rfl) ?_; rintro _ w ⟨b, rfl, -, S'⟩; replace S := S'; clear S') | (refine jq_val rfl (fun w' hJ => r_lookupSM (k := x.ID) (hB.op.mono hJ.below) hc rfl rfl) ?_) | (refine wj_valE rfl (r_alloc S) ?_; rintro _ w ⟨b', rfl, -, S'⟩; refine ⟨S'.keep [true], ?_⟩; replace S := S'; clear S') | (refine wj_skipE rfl (r_storeVar (i := 1) S rfl rfl rfl rfl (of_decide_eq_true rfl) (of_decide_eq_true rfl)) ?_; intro w S'; refine ⟨S'.keep [true], ?_⟩; replace S := S'; clear S') | (refine wl_split rfl rfl (fun h => ?_) (fun h => ?_) <;> (fail_if_success (have hh : true = true := h)) <;> (fail_if_success (have hh : false = false := h)) <;> (try simp only [decide_eq_true_eq, decide_eq_false_iff_not, Bool.not_eq_true', Bool.not_eq_false', Int.not_lt, Int.not_le] at h) <;> (try (exfalso; omega))))
    all_goals
      refine end1 rfl rfl ⟨rb ?_, S.below⟩
      unfold hasB; rw [hc]
    all_goals (simp_all <;> (try intros) <;> omega)
theorem owe_can (hB : BkAt w0 bb b1 b2 last s) (hx : -1000000000 ≤ x.At ∧ x.At ≤ 1000000000) : CallsV Tryd.prog 128 #[.pointer (some ⟨bb, 0, none⟩), .agg x.enc.toArray] w0 (.bool (canOwe s x)) := by
  have S := St.start w0
  refine CallsV.mk ?_
  refine calls_enter Tryd.func128 rfl (by intro _ h; first | exact nomatch h.1 | (obtain ⟨_, h, _⟩ := h; exact nomatch h)) Tryd.ntmps128 rfl ?_
  repeat' (first | refine WP_seq ?_ | refine WP_region ?_ | refine wl_nil ?_ | refine then_normal ?_ | refine WP_ret ?_ | (refine g_guard ?_; refine st_off rfl ?_) | (refine g_move ?_; refine st_move rfl ?_) | (refine g_assign ?_; refine st_assign rfl ?_) | (refine g_pick ?_; first | refine st_pickT rfl rfl ?_ | refine st_pickF rfl rfl ?_) | (refine g_b_add ?_; (refine st_val rfl (r_addN rfl rfl ?_ ?_) ?_; (first | omega | (simp <;> omega)); (first | omega | (simp <;> omega)))) | (refine g_b_eql ?_; refine st_val rfl (r_eql rfl rfl) ?_) | (refine g_fieldAddr ?_; refine st_val rfl (r_fieldAddrL rfl) ?_) | (refine g_load ?_; refine st_val rfl (r_loadVar (i := 0) S rfl rfl rfl) ?_) | (refine g_callV ?_; first | (refine st_callV rfl (r_call3 rfl rfl rfl rfl) (bt_spec) ?_; intro w hb; replace S := S.grow hb; clear hb) | (refine st_callV rfl (r_call2 rfl rfl rfl) (fresh_spec (hB.mono S.below)) ?_; intro w hb; replace S := S.grow hb; clear hb)) | (refine g_box ?_; refine st_valE rfl (r_box S rfl) ?_; rintro _ w ⟨b, rfl, -, S'⟩; replace S := S'; clear S') | (refine wl_split rfl rfl (fun h => ?_) (fun h => ?_) <;> (fail_if_success (have hh : true = true := h)) <;> (fail_if_success (have hh : false = false := h)) <;> (try simp only [decide_eq_true_eq, decide_eq_false_iff_not, Bool.not_eq_true', Bool.not_eq_false', Int.not_lt, Int.not_le] at h) <;> (try (exfalso; omega))))
  all_goals
    refine end1 rfl rfl ⟨rb ?_, S.below⟩
    unfold canOwe
  all_goals simp_all
theorem pay_can (hB : BkAt w0 bb b1 b2 last s) : CallsV Tryd.prog 137 #[.pointer (some ⟨bb, 0, none⟩), .agg x.enc.toArray] w0 (.bool (canPay s x)) := by
  have S := St.start w0
  refine CallsV.mk ?_
  refine calls_enter Tryd.func137 rfl (by intro _ h; first | exact nomatch h.1 | (obtain ⟨_, h, _⟩ := h; exact nomatch h)) Tryd.ntmps137 rfl ?_
  repeat' (first | refine WP_seq ?_ | refine WP_region ?_ | refine wl_nil ?_ | refine then_normal ?_ | refine WP_ret ?_ | (refine g_guard ?_; refine st_off rfl ?_) | (refine g_move ?_; refine st_move rfl ?_) | (refine g_assign ?_; refine st_assign rfl ?_) | (refine g_pick ?_; first | refine st_pickT rfl rfl ?_ | refine st_pickF rfl rfl ?_) | (refine g_b_eql ?_; refine st_val rfl (r_eql rfl rfl) ?_) | (refine g_fieldAddr ?_; refine st_val rfl (r_fieldAddrL rfl) ?_) | (refine g_load ?_; first | refine st_val rfl (r_loadVar (i := 0) S rfl rfl rfl) ?_ | refine st_val rfl (r_loadVarA (i := 0) S rfl rfl rfl rfl) ?_) | (refine g_callV ?_; (refine st_callV rfl (r_call2 rfl rfl rfl) (has_spec (hB.mono S.below)) ?_; intro w hb; replace S := S.grow hb; clear hb)) | (refine g_box ?_; refine st_valE rfl (r_box S rfl) ?_; rintro _ w ⟨b, rfl, -, S'⟩; replace S := S'; clear S') | (refine wl_split rfl rfl (fun h => ?_) (fun h => ?_) <;> (fail_if_success (have hh : true = true := h)) <;> (fail_if_success (have hh : false = false := h)) <;> (try simp only [decide_eq_true_eq, decide_eq_false_iff_not, Bool.not_eq_true', Bool.not_eq_false', Int.not_lt, Int.not_le] at h) <;> (try (exfalso; omega))))
  all_goals
    refine end1 rfl rfl ⟨rb ?_, S.below⟩
    unfold canPay
  all_goals simp_all
theorem serve_can (hB : BkAt w0 bb b1 b2 last s) : CallsV Tryd.prog 131 #[.pointer (some ⟨bb, 0, none⟩), .agg x.enc.toArray] w0 (.bool (canServe s x)) := by
  have S := St.start w0
  refine CallsV.mk ?_
  refine calls_enter Tryd.func131 rfl (by intro _ h; first | exact nomatch h.1 | (obtain ⟨_, h, _⟩ := h; exact nomatch h)) Tryd.ntmps131 rfl ?_
  cases hc : getD x.ID s.op with
  | none =>
    have hh : hasB s x = false := by unfold hasB; rw [hc]
    repeat' (first | refine WP_seq ?_ | refine WP_region ?_ | refine wl_nil ?_ | refine then_normal ?_ | refine WP_ret ?_ | refine WP_draw (by kernel_rfl) (by kernel_rfl) ?_ | (refine ql_nil ?_; intro w hb; replace S := S.grow hb; clear hb) | (refine g_assign ?_; refine st_assign rfl ?_) | (refine gq_guard ?_; refine q_off rfl ?_) | (refine gq_move ?_; refine q_move rfl ?_) | (refine gq_assign ?_; refine q_assign rfl ?_) | (refine gq_pick ?_; first | refine q_pickT rfl rfl ?_ | refine q_pickF rfl rfl ?_) | (refine gq_b_eql ?_; refine q_val rfl (fun w' hb => r_eql rfl rfl) ?_) | (refine gq_fieldAddr ?_; refine q_val rfl (fun w' hb => r_fieldAddrL rfl) ?_) | (refine gq_load ?_; first | refine q_val rfl (fun w' hb => r_loadVar (i := 0) (S.grow hb) rfl rfl rfl) ?_ | refine q_val rfl (fun w' hb => r_loadVarA (i := 0) (S.grow hb) rfl rfl rfl rfl) ?_) | (refine gq_callV ?_; refine q_callV rfl (fun w' hb => r_call2 rfl rfl rfl) (fun w' hb => has_spec (hB.mono (S.grow hb).below)) ?_) | (refine g_box ?_; refine st_valE rfl (r_box S rfl) ?_; rintro _ w ⟨b, rfl, -, S'⟩; replace S := S'; clear S') | (refine ql_split rfl rfl (fun h => ?_) (fun h => ?_) <;> (fail_if_success (have hh : true = true := h)) <;> (fail_if_success (have hh : false = false := h)) <;> (try simp only [decide_eq_true_eq, decide_eq_false_iff_not, Bool.not_eq_true', Bool.not_eq_false', Int.not_lt, Int.not_le] at h) <;> (try (exfalso; omega)) <;> (try (exfalso; rw [hh] at h; cases h; done))))
    all_goals
      refine end1 rfl rfl ⟨rb ?_, S.below⟩
      unfold canServe
    all_goals simp_all
  | some d =>
    have ha : aliveB s x = decide (x.At < d.Due) := by unfold aliveB; rw [hc]
    repeat' (first | refine WP_seq ?_ | refine WP_region ?_ | refine wl_nil ?_ | refine then_normal ?_ | refine WP_ret ?_ | refine WP_draw (by kernel_rfl) (by kernel_rfl) ?_ | (refine ql_nil ?_; intro w hb; replace S := S.grow hb; clear hb) | (refine g_assign ?_; refine st_assign rfl ?_) | (refine gq_guard ?_; refine q_off rfl ?_) | (refine gq_move ?_; refine q_move rfl ?_) | (refine gq_assign ?_; refine q_assign rfl ?_) | (refine gq_pick ?_; first | refine q_pickT rfl rfl ?_ | refine q_pickF rfl rfl ?_) | (refine gq_b_eql ?_; refine q_val rfl (fun w' hb => r_eql rfl rfl) ?_) | (refine gq_b_gtr ?_; refine q_val rfl (fun w' hb => r_gtr rfl rfl) ?_) | (refine gq_nilCheck ?_; refine q_val rfl (fun w' hb => r_nilCheck rfl) ?_) | (refine gq_fieldAddr ?_; refine q_val rfl (fun w' hb => r_fieldAddrL rfl) ?_) | (refine gq_field ?_; refine q_val rfl (fun w' hb => r_field rfl rfl) ?_) | (refine gq_load ?_; first | refine q_val rfl (fun w' hb => r_loadAt (hB.box.mono (S.grow hb).below) rfl rfl) ?_ | refine q_val rfl (fun w' hb => r_loadVar (i := 0) (S.grow hb) rfl rfl rfl) ?_ | refine q_val rfl (fun w' hb => r_loadVarA (i := 0) (S.grow hb) rfl rfl rfl rfl) ?_) | (refine gq_callV ?_; refine q_callV rfl (fun w' hb => r_call2 rfl rfl rfl) (fun w' hb => has_spec (hB.mono (S.grow hb).below)) ?_) | (refine g_box ?_; refine st_valE rfl (r_box S rfl) ?_; rintro _ w ⟨b, rfl, -, S'⟩; replace S := S'; clear S') | (refine q_val rfl (fun w' hb => r_lookup1S (k := x.ID) (hB.op.mono (S.grow hb).below) hc rfl rfl) ?_) | (refine ql_split rfl rfl (fun h => ?_) (fun h => ?_) <;> (fail_if_success (have hh : true = true := h)) <;> (fail_if_success (have hh : false = false := h)) <;> (try simp only [decide_eq_true_eq, decide_eq_false_iff_not, Bool.not_eq_true', Bool.not_eq_false', Int.not_lt, Int.not_le] at h) <;> (try (exfalso; omega))))
    all_goals
      refine end1 rfl rfl ⟨rb ?_, S.below⟩
      unfold canServe
    all_goals simp_all
theorem move_can (hB : BkAt w0 bb b1 b2 last s) : CallsV Tryd.prog 135 #[.pointer (some ⟨bb, 0, none⟩), .agg x.enc.toArray] w0 (.bool (canMove s x)) := by
  have S := St.start w0
  refine CallsV.mk ?_
  refine calls_enter Tryd.func135 rfl (by intro _ h; first | exact nomatch h.1 | (obtain ⟨_, h, _⟩ := h; exact nomatch h)) Tryd.ntmps135 rfl ?_
  cases hc : getD x.ID s.op with
  | none =>
    have hh : hasB s x = false := by unfold hasB; rw [hc]
    repeat' (first | refine WP_seq ?_ | refine WP_region ?_ | refine wl_nil ?_ | refine then_normal ?_ | refine WP_ret ?_ | refine WP_draw (by kernel_rfl) (by kernel_rfl) ?_ | (refine ql_nil ?_; intro w hb; replace S := S.grow hb; clear hb) | (refine g_assign ?_; refine st_assign rfl ?_) | (refine gq_guard ?_; refine q_off rfl ?_) | (refine gq_move ?_; refine q_move rfl ?_) | (refine gq_assign ?_; refine q_assign rfl ?_) | (refine gq_pick ?_; refine q_pickF rfl rfl ?_) | (refine gq_load ?_; refine q_val rfl (fun w' hb => r_loadVarA (i := 0) (S.grow hb) rfl rfl rfl rfl) ?_) | (refine gq_callV ?_; refine q_callV rfl (fun w' hb => r_call2 rfl rfl rfl) (fun w' hb => has_spec (hB.mono (S.grow hb).below)) ?_) | (refine g_box ?_; refine st_valE rfl (r_box S rfl) ?_; rintro _ w ⟨b, rfl, -, S'⟩; replace S := S'; clear S') | (refine ql_split rfl rfl (fun h => ?_) (fun h => ?_) <;> (fail_if_success (have hh : true = true := h)) <;> (fail_if_success (have hh : false = false := h)) <;> (try simp only [decide_eq_true_eq, decide_eq_false_iff_not, Bool.not_eq_true', Bool.not_eq_false', Int.not_lt, Int.not_le] at h) <;> (try (exfalso; omega)) <;> (try (exfalso; rw [hh] at h; cases h; done))))
    all_goals
      refine end1 rfl rfl ⟨rb ?_, S.below⟩
      unfold canMove
    all_goals simp_all
  | some d =>
    have ha : aliveB s x = decide (x.At < d.Due) := by unfold aliveB; rw [hc]
    have ho : otherB s x = !decide (x.Contract = d.Contract) := by unfold otherB; rw [hc]
    repeat' (first | refine WP_seq ?_ | refine WP_region ?_ | refine wl_nil ?_ | refine then_normal ?_ | refine WP_ret ?_ | refine WP_draw (by kernel_rfl) (by kernel_rfl) ?_ | (refine ql_nil ?_; intro w hb; replace S := S.grow hb; clear hb) | (refine g_assign ?_; refine st_assign rfl ?_) | (refine gq_guard ?_; refine q_off rfl ?_) | (refine gq_move ?_; refine q_move rfl ?_) | (refine gq_assign ?_; refine q_assign rfl ?_) | (refine gq_pick ?_; first | refine q_pickT rfl rfl ?_ | refine q_pickF rfl rfl ?_) | (refine gq_b_neq ?_; refine q_val rfl (fun w' hb => r_neq rfl rfl) ?_) | (refine gq_b_gtr ?_; refine q_val rfl (fun w' hb => r_gtr rfl rfl) ?_) | (refine gq_nilCheck ?_; refine q_val rfl (fun w' hb => r_nilCheck rfl) ?_) | (refine gq_fieldAddr ?_; refine q_val rfl (fun w' hb => r_fieldAddrL rfl) ?_) | (refine gq_field ?_; refine q_val rfl (fun w' hb => r_field rfl rfl) ?_) | (refine gq_load ?_; first | refine q_val rfl (fun w' hb => r_loadAt (hB.box.mono (S.grow hb).below) rfl rfl) ?_ | refine q_val rfl (fun w' hb => r_loadVar (i := 0) (S.grow hb) rfl rfl rfl) ?_ | refine q_val rfl (fun w' hb => r_loadVarA (i := 0) (S.grow hb) rfl rfl rfl rfl) ?_) | (refine gq_callV ?_; first | refine q_callV rfl (fun w' hb => r_call3 rfl rfl rfl rfl) (fun w' hb => bt_spec) ?_ | refine q_callV rfl (fun w' hb => r_call2 rfl rfl rfl) (fun w' hb => has_spec (hB.mono (S.grow hb).below)) ?_ | refine q_callV rfl (fun w' hb => r_call2 rfl rfl rfl) (fun w' hb => fresh_spec (hB.mono (S.grow hb).below)) ?_) | (refine g_box ?_; refine st_valE rfl (r_box S rfl) ?_; rintro _ w ⟨b, rfl, -, S'⟩; replace S := S'; clear S') | (refine q_val rfl (fun w' hb => r_lookup1S (k := x.ID) (hB.op.mono (S.grow hb).below) hc rfl rfl) ?_) | (refine ql_split rfl rfl (fun h => ?_) (fun h => ?_) <;> (fail_if_success (have hh : true = true := h)) <;> (fail_if_success (have hh : false = false := h)) <;> (try simp only [decide_eq_true_eq, decide_eq_false_iff_not, Bool.not_eq_true', Bool.not_eq_false', Int.not_lt, Int.not_le] at h) <;> (try (exfalso; omega))))
    all_goals
      refine end1 rfl rfl ⟨rb ?_, S.below⟩
      unfold canMove
    all_goals (simp_all <;> (try intros) <;> omega)
end
end Go.Proofs.YtgdmaadikcnagaaDoor
/- The numbers of the open debts, sorted: the kit's contracts for maps.Keys and slices.Sorted. -/
namespace Go.Proofs
open Go.Shelf
def YtgdmaadikcnagaaDoor.keysA_ren : Go.Shelf.Ren := ⟨fun | 7 => 35 | 10 => 53 | n => n, fun | 23 => 90 | 26 => 3 | 3 => 33 | 28 => 97 | 0 => 0 | 27 => 96 | 33 => 113 | 4 => 4 | n => n, fun | n => n⟩
theorem YtgdmaadikcnagaaDoor.keysA : Go.Proofs.SlLaysZI.n7 Tryd.prog YtgdmaadikcnagaaDoor.keysA_ren := {
  mixed := by kernel_rfl,
  f7 := ⟨Tryd.f35.name, by decide, Tryd.func35.trans (congrArg some (by kernel_rfl))⟩,
  f10 := ⟨Tryd.f53.name, by decide, Tryd.func53.trans (congrArg some (by kernel_rfl))⟩,
  t0 := Tryd.underlying0,
  a0 := Tryd.isAgg0,
  z0 := Tryd.sizeOf0,
  v0 := Tryd.zeroValue0,
  t4 := Tryd.underlying4,
  a4 := Tryd.isAgg4,
  z4 := Tryd.sizeOf4,
  v4 := Tryd.zeroValue4,
  t23 := Tryd.underlying90,
  a23 := Tryd.isAgg90,
  z23 := Tryd.sizeOf90,
  v23 := Tryd.zeroValue90,
  t26 := Tryd.underlying3,
  a26 := Tryd.isAgg3,
  z26 := Tryd.sizeOf3,
  v26 := Tryd.zeroValue3,
  t27 := Tryd.underlying96,
  a27 := Tryd.isAgg96,
  z27 := Tryd.sizeOf96,
  v27 := Tryd.zeroValue96,
  t28 := Tryd.underlying97,
  a28 := Tryd.isAgg97,
  z28 := Tryd.sizeOf97,
  v28 := Tryd.zeroValue97,
  t33 := Tryd.underlying113,
  a33 := Tryd.isAgg113,
  z33 := Tryd.sizeOf113,
  v33 := Tryd.zeroValue113 }
def YtgdmaadikcnagaaDoor.sortedA_ren : Go.Shelf.Ren := ⟨fun | 6 => 34 | 8 => 51 | 9 => 52 | 11 => 66 | 13 => 57 | 12 => 67 | 23 => 77 | 24 => 78 | 14 => 84 | 15 => 85 | 16 => 86 | 17 => 87 | 18 => 88 | 19 => 89 | 20 => 90 | 21 => 91 | 22 => 92 | 25 => 103 | 26 => 95 | 27 => 96 | 28 => 104 | 29 => 105 | 30 => 55 | 31 => 109 | n => n, fun | 26 => 3 | 28 => 97 | 24 => 66 | 0 => 0 | 3 => 3 | 37 => 127 | 48 => 151 | 50 => 153 | 4 => 4 | 40 => 145 | 39 => 144 | 45 => 48 | 5 => 5 | 9 => 9 | 51 => 167 | 55 => 171 | 57 => 179 | 58 => 180 | 33 => 113 | n => n, fun | n => n⟩
theorem YtgdmaadikcnagaaDoor.sortedA : Go.Proofs.SlLaysZI.n6 Tryd.prog YtgdmaadikcnagaaDoor.sortedA_ren := {
  mixed := by kernel_rfl,
  f6 := ⟨Tryd.f34.name, by decide, Tryd.func34.trans (congrArg some (by kernel_rfl))⟩,
  f8 := ⟨Tryd.f51.name, by decide, Tryd.func51.trans (congrArg some (by kernel_rfl))⟩,
  f11 := ⟨Tryd.f66.name, by decide, Tryd.func66.trans (congrArg some (by kernel_rfl))⟩,
  t0 := Tryd.underlying0,
  a0 := Tryd.isAgg0,
  z0 := Tryd.sizeOf0,
  v0 := Tryd.zeroValue0,
  t24 := Tryd.underlying66,
  a24 := Tryd.isAgg66,
  z24 := Tryd.sizeOf66,
  v24 := Tryd.zeroValue66,
  t26 := Tryd.underlying3,
  a26 := Tryd.isAgg3,
  z26 := Tryd.sizeOf3,
  v26 := Tryd.zeroValue3,
  t28 := Tryd.underlying97,
  a28 := Tryd.isAgg97,
  z28 := Tryd.sizeOf97,
  v28 := Tryd.zeroValue97,
  i26 := by kernel_rfl }
def YtgdmaadikcnagaaDoor.sortA_ren : Go.Shelf.Ren := ⟨fun | 5 => 52 | 8 => 57 | 7 => 67 | 19 => 77 | 20 => 78 | 10 => 84 | 11 => 85 | 12 => 86 | 13 => 87 | 14 => 88 | 15 => 89 | 16 => 90 | 17 => 91 | 18 => 92 | 30 => 103 | 31 => 95 | 32 => 96 | 33 => 104 | 34 => 105 | 35 => 55 | 40 => 109 | n => n, fun | 23 => 66 | 25 => 3 | 3 => 3 | 32 => 127 | 22 => 66 | 0 => 0 | 44 => 151 | 46 => 153 | 4 => 4 | 36 => 145 | 35 => 144 | 41 => 48 | 5 => 5 | 9 => 9 | 53 => 167 | 57 => 171 | 63 => 179 | 64 => 180 | n => n, fun | n => n⟩
theorem YtgdmaadikcnagaaDoor.sortA : Go.Proofs.SlLaysM.n5 Tryd.prog YtgdmaadikcnagaaDoor.sortA_ren := {
  mixed := by kernel_rfl,
  f5 := ⟨Tryd.f52.name, by decide, Tryd.func52.trans (congrArg some (by kernel_rfl))⟩,
  f7 := ⟨Tryd.f67.name, by decide, Tryd.func67.trans (congrArg some (by kernel_rfl))⟩,
  f8 := Tryd.func57.trans (congrArg some (by kernel_rfl)),
  f10 := ⟨Tryd.f84.name, by decide, Tryd.func84.trans (congrArg some (by kernel_rfl))⟩,
  f11 := ⟨Tryd.f85.name, by decide, Tryd.func85.trans (congrArg some (by kernel_rfl))⟩,
  f12 := ⟨Tryd.f86.name, by decide, Tryd.func86.trans (congrArg some (by kernel_rfl))⟩,
  f13 := ⟨Tryd.f87.name, by decide, Tryd.func87.trans (congrArg some (by kernel_rfl))⟩,
  f14 := ⟨Tryd.f88.name, by decide, Tryd.func88.trans (congrArg some (by kernel_rfl))⟩,
  f15 := ⟨Tryd.f89.name, by decide, Tryd.func89.trans (congrArg some (by kernel_rfl))⟩,
  f16 := ⟨Tryd.f90.name, by decide, Tryd.func90.trans (congrArg some (by kernel_rfl))⟩,
  f17 := ⟨Tryd.f91.name, by decide, Tryd.func91.trans (congrArg some (by kernel_rfl))⟩,
  f18 := ⟨Tryd.f92.name, by decide, Tryd.func92.trans (congrArg some (by kernel_rfl))⟩,
  f19 := Tryd.func77.trans (congrArg some (by kernel_rfl)),
  f20 := Tryd.func78.trans (congrArg some (by kernel_rfl)),
  f30 := ⟨Tryd.f103.name, by decide, Tryd.func103.trans (congrArg some (by kernel_rfl))⟩,
  f31 := Tryd.func95.trans (congrArg some (by kernel_rfl)),
  f32 := Tryd.func96.trans (congrArg some (by kernel_rfl)),
  f33 := ⟨Tryd.f104.name, by decide, Tryd.func104.trans (congrArg some (by kernel_rfl))⟩,
  f34 := ⟨Tryd.f105.name, by decide, Tryd.func105.trans (congrArg some (by kernel_rfl))⟩,
  f35 := ⟨Tryd.f55.name, by decide, Tryd.func55.trans (congrArg some (by kernel_rfl))⟩,
  f40 := ⟨Tryd.f109.name, by decide, Tryd.func109.trans (congrArg some (by kernel_rfl))⟩,
  t0 := Tryd.underlying0,
  a0 := Tryd.isAgg0,
  z0 := Tryd.sizeOf0,
  v0 := Tryd.zeroValue0,
  t3 := Tryd.underlying3,
  a3 := Tryd.isAgg3,
  z3 := Tryd.sizeOf3,
  v3 := Tryd.zeroValue3,
  t4 := Tryd.underlying4,
  a4 := Tryd.isAgg4,
  z4 := Tryd.sizeOf4,
  v4 := Tryd.zeroValue4,
  t5 := Tryd.underlying5,
  a5 := Tryd.isAgg5,
  z5 := Tryd.sizeOf5,
  v5 := Tryd.zeroValue5,
  t9 := Tryd.underlying9,
  a9 := Tryd.isAgg9,
  z9 := Tryd.sizeOf9,
  v9 := Tryd.zeroValue9,
  t22 := Tryd.underlying66,
  a22 := Tryd.isAgg66,
  z22 := Tryd.sizeOf66,
  v22 := Tryd.zeroValue66,
  t23 := Tryd.underlying66,
  a23 := Tryd.isAgg66,
  z23 := Tryd.sizeOf66,
  v23 := Tryd.zeroValue66,
  t25 := Tryd.underlying3,
  a25 := Tryd.isAgg3,
  z25 := Tryd.sizeOf3,
  v25 := Tryd.zeroValue3,
  t32 := Tryd.underlying127,
  a32 := Tryd.isAgg127,
  z32 := Tryd.sizeOf127,
  v32 := Tryd.zeroValue127,
  t35 := Tryd.underlying144,
  a35 := Tryd.isAgg144,
  z35 := Tryd.sizeOf144,
  v35 := Tryd.zeroValue144,
  t36 := Tryd.underlying145,
  a36 := Tryd.isAgg145,
  z36 := Tryd.sizeOf145,
  v36 := Tryd.zeroValue145,
  t41 := Tryd.underlying48,
  a41 := Tryd.isAgg48,
  z41 := Tryd.sizeOf48,
  v41 := Tryd.zeroValue48,
  t44 := Tryd.underlying151,
  a44 := Tryd.isAgg151,
  z44 := Tryd.sizeOf151,
  v44 := Tryd.zeroValue151,
  t46 := Tryd.underlying153,
  a46 := Tryd.isAgg153,
  z46 := Tryd.sizeOf153,
  v46 := Tryd.zeroValue153,
  t53 := Tryd.underlying167,
  a53 := Tryd.isAgg167,
  z53 := Tryd.sizeOf167,
  v53 := Tryd.zeroValue167,
  t57 := Tryd.underlying171,
  a57 := Tryd.isAgg171,
  z57 := Tryd.sizeOf171,
  v57 := Tryd.zeroValue171,
  t63 := Tryd.underlying179,
  a63 := Tryd.isAgg179,
  z63 := Tryd.sizeOf179,
  v63 := Tryd.zeroValue179,
  t64 := Tryd.underlying180,
  a64 := Tryd.isAgg180,
  z64 := Tryd.sizeOf180,
  v64 := Tryd.zeroValue180 }
end Go.Proofs
namespace Go.Proofs.YtgdmaadikcnagaaDoor
open Go Go.Gx Go.RowKit Go.Maps Go.Shelf
set_option linter.unusedVariables false
set_option linter.unusedSimpArgs false
theorem sortsA (m : Nat) : AnyZI.SortsIn Tryd.prog YtgdmaadikcnagaaDoor.sortedA_ren Fence.wide m :=
  ⟨fun blk off cap ss W hH hblk hsz => callsIn_wide.2 (AnyM.slices_Sort_int YtgdmaadikcnagaaDoor.sortA blk off cap ss W hH hblk hsz),
   fun p cap W => callsIn_wide.2 (AnyM.slices_Sort_int_none YtgdmaadikcnagaaDoor.sortA p cap W)⟩
abbrev RU : Value → Option (DataW Unit × List MemPlace) := fun _ => some (.nil, [])
abbrev keysV (bx : Nat) : Value := .func (.func 53) #[] #[.pointer (some ⟨bx, 0, none⟩)]
theorem keys_spec {b : Nat} {w : World} : CallsR Tryd.prog 35 #[.map (some b)] w (fun v w' => ∃ bx, v = keysV bx ∧ bx < w'.heap.size ∧ w'.cell? ⟨bx, 0, none⟩ = some (.map (some b))) := by
  refine CallsR.mk ?_
  refine Calls.mono ((callsIn_wide (n := 5)).1 (AnyZI.keys_in YtgdmaadikcnagaaDoor.keysA Fence.wide 5 trivial rfl (some b) w)) fun e w' h => ?_
  obtain ⟨rfl, rfl⟩ := h
  exact ⟨_, rfl, below_alloc _ _, _, rfl, by simp, by simp⟩
theorem getD_some_iff {op : List GDebt} {k : Int} : getD k op ≠ none ↔ k ∈ idsD op := by
  constructor
  · intro h
    cases e : getD k op with
    | none => exact absurd e h
    | some d => obtain ⟨h1, h2⟩ := getD_mem e; exact List.mem_map.2 ⟨d, h1, h2⟩
  · intro h e
    obtain ⟨d, hd, hk⟩ := List.mem_map.1 h
    exact getD_none e d hd hk
theorem dGet_some_iff {V : Type} {l : List (Int × V × Nat)} {k : Int} : dGet k l ≠ none ↔ k ∈ l.map (·.1) := by
  rw [Ne, dGet_none]
  constructor
  · intro h
    refine Classical.byContradiction fun hn => h fun x hx e => hn (List.mem_map.2 ⟨x, hx, e⟩)
  · intro h h2
    obtain ⟨x, hx, e⟩ := List.mem_map.1 h
    exact h2 x hx e
theorem keys_perm {op : List GDebt} {l : List (Int × GDebt × Nat)} {c : Nat} (hok : DOk l c) (hm : ∀ k, dGet k l = opM op k) (hs : SrtI op) : (l.map (·.1)).Perm (idsD op) := by
  refine (List.perm_ext_iff_of_nodup hok.nd (List.pairwise_map.2 (hs.imp fun {a b} h e => by omega))).2 fun k => ?_
  rw [← dGet_some_iff, hm k, ← getD_some_iff]; rfl
theorem rgU {k : Int} {v : Value} {c : Nat} (h0 : 0 ≤ k) (h1 : k ≤ 1000) : WideElems.rd Tryd.prog 3 RU { key := eI k, val := v, born := c } = some (.int .i64 k, .nil) := by
  have hw : (Lit.int .i64 k).wf = true := by
    have a : IntKind.i64.min ≤ 0 := by decide
    have b : 1000 ≤ IntKind.i64.max := by decide
    simp [Lit.wf]; omega
  unfold WideElems.rd
  have e : keyOf Tryd.prog 3 (eI k) = some (.int .i64 k) := by
    simp [keyOf, Tryd.underlying3, mapKey, hw]
  rw [e]; rfl
theorem rgU2 {e : MapEntry} {y : Lit × DataW Unit} (h : WideElems.rd Tryd.prog 3 RU e = some y) : WideElems.rg Tryd.prog 3 RU e = y := by
  unfold WideElems.rg; rw [h, Option.getD_some]
theorem own_of {op : List GDebt} {b : Nat} {w : World} (hD : DMAt w b eI eDt (opM op)) (hs : SrtI op) (hr : ∀ d ∈ op, 0 ≤ d.ID ∧ d.ID ≤ 199) (hl : op.length ≤ 1000) :
    ∃ D0 : DataW Unit, w.ownsMap Tryd.prog 3 RU b 1000 D0 ∧ (intKeys D0).Perm (idsD op) ∧ Maps.size D0 = op.length := by
  obtain ⟨o, ho, l, c, rfl, hok, hm⟩ := hD
  have hp := keys_perm hok hm hs
  have hlen : l.length = op.length := by have := hp.length_eq; simpa using this
  have hk : ∀ x ∈ l, 0 ≤ x.1 ∧ x.1 ≤ 199 := fun x hx => by
    have h1 : x.1 ∈ idsD op := hp.mem_iff.1 (List.mem_map_of_mem hx)
    obtain ⟨d, hd, e⟩ := List.mem_map.1 h1
    have := hr d hd
    rw [← e]; exact this
  have hrd : ∀ x ∈ l, WideElems.rd Tryd.prog 3 RU { key := eI x.1, val := eDt x.2.1, born := x.2.2 } = some (.int .i64 x.1, .nil) := fun x hx => rgU (hk x hx).1 (by have := (hk x hx).2; omega)
  have hrg : (dEs eI eDt l).map (WideElems.rg Tryd.prog 3 RU) = l.map fun x => ((.int .i64 x.1, .nil) : Lit × DataW Unit) := by
    unfold dEs
    rw [List.map_map]
    apply List.map_congr_left
    intro x hx
    rw [Function.comp_apply]
    exact rgU2 (hrd x hx)
  refine ⟨.map (((dEs eI eDt l).map (WideElems.rg Tryd.prog 3 RU)).foldr DataW.insert []), ⟨(dEs eI eDt l).toArray, c, ho, ⟨?_, ⟨?_, ?_, ?_⟩, ?_⟩, ?_, rfl⟩, ?_, ?_⟩
  · have h1 : (dEs eI eDt l).length ≤ 1000 := by rw [dEs_length]; omega
    exact Nat.le_trans h1 (by decide)
  · intro x hx
    obtain ⟨y, hy, rfl⟩ := List.mem_map.1 hx
    exact hok.lt y hy
  · show ((dEs eI eDt l).map (·.born)).Nodup
    unfold dEs; rw [List.map_map]; exact hok.bn
  · show ((dEs eI eDt l).map (·.key)).Nodup
    unfold dEs; rw [List.map_map]
    refine List.pairwise_map.2 ((List.pairwise_map.1 hok.nd).imp fun {a b} h e => h ?_)
    exact (by simpa using e : a.1 = b.1)
  · intro x hx
    obtain ⟨y, hy, rfl⟩ := List.mem_map.1 hx
    exact ⟨_, hrd y hy⟩
  · show (dEs eI eDt l).length ≤ _; rw [dEs_length]; omega
  · show ((((dEs eI eDt l).map (WideElems.rg Tryd.prog 3 RU)).foldr DataW.insert []).map fun p => Go.intOf p.1).Perm _
    refine ((WideShapes.sorted_perm _).map _).trans ?_
    rw [hrg, List.map_map]
    exact hp
  · show (((dEs eI eDt l).map (WideElems.rg Tryd.prog 3 RU)).foldr DataW.insert []).length = _
    rw [(WideShapes.sorted_perm _).length_eq, List.length_map, dEs_length]; exact hlen
theorem merge_ids {ss : List Int} {op : List GDebt} (h : ss.Perm (idsD op)) (hs : SrtI op) : ss.mergeSort (fun x y => decide (x ≤ y)) = idsD op := by
  have tr : ∀ a b c : Int, leI a b = true → leI b c = true → leI a c = true := fun a b c h1 h2 => by simp only [leI, decide_eq_true_eq] at *; exact Int.le_trans h1 h2
  have to : ∀ a b : Int, (leI a b || leI b a) = true := fun a b => by simp only [leI, Bool.or_eq_true, decide_eq_true_eq]; exact Int.le_total a b
  refine List.Perm.eq_of_pairwise (le := fun a b => leI a b = true) (fun a b _ _ h1 h2 => ?_) (List.pairwise_mergeSort tr to ss) (List.pairwise_map.2 (hs.imp fun {a b} h => by simp only [leI, decide_eq_true_eq]; omega)) ((List.mergeSort_perm ss leI).trans h)
  simp only [leI, decide_eq_true_eq] at h1 h2
  exact Int.le_antisymm h1 h2
set_option maxHeartbeats 1000000 in
theorem sorted_spec {op : List GDebt} {b bx : Nat} {w : World} (hD : DMAt w b eI eDt (opM op)) (hs : SrtI op) (hr : ∀ d ∈ op, 0 ≤ d.ID ∧ d.ID ≤ 199) (hl : op.length ≤ 1000) (hb : bx < w.heap.size) (hc : w.cell? ⟨bx, 0, none⟩ = some (.map (some b))) :
    CallsR Tryd.prog 34 #[keysV bx] w (fun v w' => NewRow (fInt .i64) 3 w w' v (idsD op)) := by
  obtain ⟨D0, hown, hp, hsz⟩ := own_of hD hs hr hl
  have hseq : SeqGives Fence.wide 2 Tryd.prog 53 #[.pointer (some ⟨bx, 0, none⟩)] encZ (fun ss => ss.Perm (intKeys D0)) (Maps.size D0) w :=
    AnyZI.keys_gives (ρ := YtgdmaadikcnagaaDoor.keysA_ren) { YtgdmaadikcnagaaDoor.keysA with } Fence.wide _ trivial rfl (by omega) bx b 1000 D0 w hb hc hown
  have cS := AnyZI.sorted_in YtgdmaadikcnagaaDoor.sortedA Fence.wide 5 trivial trivial trivial trivial rfl (by omega) (sortsA _) (enters_of Tryd.func52 (by kernel_rfl) rfl) 53 #[.pointer (some ⟨bx, 0, none⟩)] trivial (enters_of Tryd.func53 (by kernel_rfl) rfl) _ (Maps.size D0) (by unfold maxLen; omega) (by omega) _ hseq
  refine CallsR.mk ?_
  refine Calls.mono ((callsIn_wide (n := 5)).1 cS) fun e w' h => ?_
  obtain ⟨v, ss, rfl, hS, hrow, hnil, hbl⟩ := h
  have hss : ss.Perm (idsD op) := hS.trans hp
  rw [merge_ids hss hs] at hrow
  refine ⟨v, rfl, hbl, ?_⟩
  have e1 : ss.length = (idsD op).length := hss.length_eq
  rw [e1] at hrow
  have e2 : (idsD op).map encZ = fl (fInt .i64) (idsD op) := by
    unfold fl
    generalize idsD op = l
    induction l with
    | nil => rfl
    | cons a r ih => rw [List.map_cons, List.flatMap_cons, ← ih]; rfl
  rw [e2] at hrow
  exact hrow
end Go.Proofs.YtgdmaadikcnagaaDoor
/- The books: what is written to them. -/
namespace Go.Proofs.YtgdmaadikcnagaaDoor
open Go Go.Gx Go.RowKit
set_option linter.unusedVariables false
set_option linter.unusedSimpArgs false

theorem opM_put {d : GDebt} : ∀ {l : List GDebt}, (∀ x ∈ l, x.ID ≠ d.ID) → ∀ k, getD k (putD d l) = if k = d.ID then some d else getD k l
  | [], _, k => by
    simp only [putD, getD]
    by_cases e : d.ID = k
    · rw [if_pos e, if_pos e.symm]
    · rw [if_neg e, if_neg (fun h => e h.symm)]
  | a :: r, h, k => by
    have h1 := h a (List.mem_cons_self ..)
    have ih := opM_put (l := r) (fun x hx => h x (List.mem_cons_of_mem _ hx)) k
    unfold putD; split
    · simp only [getD]
      by_cases e : d.ID = k
      · rw [if_pos e, if_pos e.symm]
      · rw [if_neg e, if_neg (show ¬ k = d.ID from fun h => e h.symm)]
    · simp only [getD, ih]
      by_cases e : a.ID = k
      · rw [if_pos e, if_pos e, if_neg (fun h => h1 (e.trans h))]
      · rw [if_neg e, if_neg e]
theorem getD_out : ∀ {l : List GDebt} {k : Int}, (∀ x ∈ l, x.ID ≠ k) → getD k l = none
  | [], _, _ => rfl
  | a :: r, k, h => by
    unfold getD
    rw [if_neg (h a (List.mem_cons_self ..))]
    exact getD_out fun x hx => h x (List.mem_cons_of_mem _ hx)
theorem opM_less {n : Int} : ∀ {l : List GDebt} {k : Int} {d : GDebt}, SrtI l → getD k l = some d → ∀ y, getD y (lessD k n l) = if y = k then (if d.Count - n = 0 then none else some { d with Count := d.Count - n }) else getD y l
  | [], _, _, _, h, _ => by cases h
  | a :: r, k, d, hs, h, y => by
    obtain ⟨s1, s2⟩ := List.pairwise_cons.1 hs
    unfold getD at h
    by_cases e : a.ID = k
    · rw [if_pos e] at h
      have h := Option.some.inj h
      subst h
      unfold lessD; rw [if_pos e]
      have hout : getD k r = none := getD_out fun x hx e' => by have := s1 x hx; omega
      split
      · by_cases ey : y = k
        · rw [if_pos ey, ey]; exact hout
        · rw [if_neg ey]; simp only [getD]; rw [if_neg (fun h => ey (h.symm.trans e))]
      · simp only [getD]
        by_cases ey : y = k
        · rw [if_pos ey, if_pos (e.trans ey.symm)]
        · rw [if_neg ey, if_neg (fun h => ey (h.symm.trans e)), if_neg (fun h => ey (h.symm.trans e))]
    · rw [if_neg e] at h
      have ih := opM_less (n := n) s2 h y
      unfold lessD; rw [if_neg e]
      simp only [getD, ih]
      by_cases ey : a.ID = y
      · rw [if_pos ey, if_pos ey, if_neg (fun h => e (ey.trans h))]
      · rw [if_neg ey, if_neg ey]
section
variable {w0 w : World} {bb b1 b2 : Nat} {last : Int} {s : Bk} {x : GDeed} {ex : List Ob}
set_option maxHeartbeats 1000000 in
theorem put_run {d : GDebt} (S : St w0 w (BKs bb b1 b2 last s ex)) (hn : ∀ y ∈ s.op, y.ID ≠ d.ID) : CallsW Tryd.prog 130 #[.pointer (some ⟨bb, 0, none⟩), .agg d.enc.toArray] w (fun _ w' => St w0 w' (BKs bb b1 b2 last ⟨putD d s.op, setU s.used d.ID, s.sums⟩ ex)) := by
  have e1 : opM (putD d s.op) = mSet (opM s.op) d.ID d := funext fun k => opM_put hn k
  have e2 : usM (setU s.used d.ID) = mSet (usM s.used) d.ID true := funext fun k => by
    unfold usM setU mSet
    by_cases h : k = d.ID
    · rw [if_pos h, if_pos h]; rfl
    · rw [if_neg h, if_neg h]
  refine CallsW.mk ?_
  refine calls_enter Tryd.func130 rfl (by intro _ h; first | exact nomatch h.1 | (obtain ⟨_, h, _⟩ := h; exact nomatch h)) Tryd.ntmps130 rfl ?_
  repeat' (first | refine WP_seq ?_ | refine WP_region ?_ | refine wl_nil ?_ | refine then_normal ?_ | (refine WP_drawJ (fun w' => St w0 w' [.var b 33 d.enc, .var bb 93 (bkC b1 b2 last s.sums)]) [0,1,2,3,4,5,6,7,8,9,10,11,12] [13,14,15,16,17,18] [] (by kernel_rfl) (by decide) (by decide +kernel) (fun w' hb => (S.grow hb).keep [true, true]) ?_; intro w hb; replace S := S.grow hb; clear hb) | refine jq_nil ?_ | (refine gj_move ?_; refine jq_val rfl (fun w' hJ => ⟨rfl⟩) ?_) | (refine gj_assign ?_; refine jq_val rfl (fun w' hJ => ⟨rfl⟩) ?_) | (refine gj_nilCheck ?_; refine jq_val rfl (fun w' hJ => r_nilCheck rfl) ?_) | (refine gj_fieldAddr ?_; refine jq_val rfl (fun w' hJ => r_fieldAddrL rfl) ?_) | (refine gj_load ?_; first | refine jq_val rfl (fun w' hJ => r_loadVar (i := 0) hJ rfl rfl rfl) ?_ | refine jq_val rfl (fun w' hJ => r_loadVarA (i := 0) hJ rfl rfl rfl rfl) ?_ | refine jq_val rfl (fun w' hJ => r_loadVar (i := 1) hJ rfl rfl rfl) ?_) | (refine g_box ?_; refine st_valE rfl (r_box S rfl) ?_; rintro _ w ⟨b, rfl, -, S'⟩; replace S := S'.front; clear S'))
  refine wj_valE rfl (r_mapEntryD (i := 2) (k := d.ID) (GDebt.mk 0 0 0 0) S rfl rfl rfl rfl) ?_
  rintro _ w ⟨y, j, l', c', rfl, ⟨q, v0, hq⟩, hj, hok, hget, -, S'⟩
  refine ⟨S'.keep [true, true], ?_⟩
  replace S := S'; clear S'
  refine wj_val rfl (r_extract rfl rfl) (S.keep [true, true]) ?_
  refine wj_skipE rfl (r_entryStoreD (i := 2) (v := d) S rfl rfl rfl rfl hq hj hok hget) ?_
  intro w S'
  refine ⟨S'.keep [true, true], ?_⟩
  replace S := S'; clear S' hq hj hok hget
  refine wj_valE rfl (r_mapEntryD (i := 3) (k := d.ID) false S rfl rfl rfl rfl) ?_
  rintro _ w ⟨y2, j2, l2, c2, rfl, ⟨q, v0, hq⟩, hj, hok, hget, -, S'⟩
  refine ⟨S'.keep [true, true], ?_⟩
  replace S := S'; clear S'
  refine wj_val rfl (r_extract rfl rfl) (S.keep [true, true]) ?_
  refine wj_skipE rfl (r_entryStoreD (i := 3) (v := true) S rfl rfl rfl rfl hq hj hok hget) ?_
  intro w S'
  refine ⟨S'.keep [true, true], ?_⟩
  replace S := S'; clear S' hq hj hok hget
  refine wj_nil ?_
  refine wl_nil ?_
  refine end0 rfl ⟨_, rfl, ?_⟩
  have S2 := S.tail
  rw [← e1, ← e2] at S2; exact S2
set_option maxHeartbeats 1000000 in
theorem less_run {d : GDebt} (S : St w0 w (BKs bb b1 b2 last s ex)) (hs : SrtI s.op) (hd : getD x.ID s.op = some d) (hc : -1000 ≤ d.Count - x.Count ∧ d.Count - x.Count ≤ 1000) : CallsW Tryd.prog 134 #[.pointer (some ⟨bb, 0, none⟩), .agg x.enc.toArray] w (fun _ w' => St w0 w' (BKs bb b1 b2 last ⟨lessD x.ID x.Count s.op, s.used, s.sums⟩ ex)) := by
  have hl := opM_less (n := x.Count) hs hd
  have hd' : opM s.op x.ID = some d := hd
  refine CallsW.mk ?_
  refine calls_enter Tryd.func134 rfl (by intro _ h; first | exact nomatch h.1 | (obtain ⟨_, h, _⟩ := h; exact nomatch h)) Tryd.ntmps134 rfl ?_
  repeat' (first | refine WP_seq ?_ | refine WP_region ?_ | refine wl_nil ?_ | refine then_normal ?_ | (refine WP_drawJ (fun w' => St w0 w' [.var b 36 x.enc, .var bb 93 (bkC b1 b2 last s.sums), dOb eI eDt b1 (opM s.op)]) [0,1,2,3,4,5,6] [7,8] [] (by kernel_rfl) (by decide) (by decide +kernel) (fun w' hb => (S.grow hb).keep [true, true, true]) ?_; intro w hb; replace S := S.grow hb; clear hb) | refine jq_nil ?_ | (refine gj_move ?_; refine jq_val rfl (fun w' hJ => ⟨rfl⟩) ?_) | (refine gj_assign ?_; refine jq_val rfl (fun w' hJ => ⟨rfl⟩) ?_) | (refine gj_nilCheck ?_; refine jq_val rfl (fun w' hJ => r_nilCheck rfl) ?_) | (refine gj_fieldAddr ?_; refine jq_val rfl (fun w' hJ => r_fieldAddrL rfl) ?_) | (refine gj_load ?_; first | refine jq_val rfl (fun w' hJ => r_loadVar (i := 0) hJ rfl rfl rfl) ?_ | refine jq_val rfl (fun w' hJ => r_loadVar (i := 1) hJ rfl rfl rfl) ?_) | (refine g_box ?_; refine st_valE rfl (r_box S rfl) ?_; rintro _ w ⟨b, rfl, -, S'⟩; replace S := S'.front; clear S') | (refine jq_val rfl (fun w' hJ => r_lookup1S (k := x.ID) (hJ.dmAt (i := 2) rfl) hd' rfl rfl) ?_))
  refine wj_valE rfl (r_alloc S) ?_
  rintro _ w ⟨b', rfl, -, S'⟩; replace S := S'.front; clear S'; refine ⟨S.keep [false, true, true, true], ?_⟩
  refine wj_skipE rfl (r_storeVar (i := 0) S rfl rfl rfl rfl (of_decide_eq_true rfl) (of_decide_eq_true rfl)) ?_
  intro w S'; refine ⟨S'.keep [false, true, true, true], ?_⟩; replace S := S'; clear S'
  refine wj_nil ?_
  have hv : eDt ⟨d.ID, d.Contract, d.Count - x.Count, d.Due⟩ = eDt { d with Count := d.Count - x.Count } := rfl
  by_cases hz : d.Count - x.Count = 0
  · have e1 : opM (lessD x.ID x.Count s.op) = mDel (mSet (opM s.op) x.ID { d with Count := d.Count - x.Count }) x.ID := funext fun y => by
      have := hl y
      unfold opM mDel mSet
      rw [this]
      by_cases e : y = x.ID
      · rw [if_pos e, if_pos e, if_pos hz]
      · rw [if_neg e, if_neg e]; simp only [if_neg e]
    repeat' (first | refine WP_seq ?_ | refine WP_region ?_ | refine wl_nil ?_ | refine then_normal ?_ | refine WP_drawTail 7 (by kernel_rfl) (by decide +kernel) ?_ | (refine ql_nil ?_; intro w hb; replace S := S.grow hb; clear hb) | (refine g_b_sub ?_; (refine st_val rfl (r_subN rfl rfl ?_ ?_) ?_; (first | omega | (simp <;> omega)); (first | omega | (simp <;> omega)))) | (refine g_fieldAddr ?_; refine st_val rfl (r_fieldAddrL rfl) ?_) | (refine g_load ?_; first | refine st_val rfl (r_loadVar (i := 0) S rfl rfl rfl) ?_ | refine st_val rfl (r_loadVar (i := 1) S rfl rfl rfl) ?_) | (refine gq_move ?_; refine q_move rfl ?_) | (refine gq_nilCheck ?_; refine q_val rfl (fun w' hb => r_nilCheck rfl) ?_) | (refine gq_fieldAddr ?_; refine q_val rfl (fun w' hb => r_fieldAddrL rfl) ?_) | (refine gq_load ?_; first | refine q_val rfl (fun w' hb => r_loadVarA (i := 0) (S.grow hb) rfl rfl rfl rfl) ?_ | refine q_val rfl (fun w' hb => r_loadVar (i := 1) (S.grow hb) rfl rfl rfl) ?_ | refine q_val rfl (fun w' hb => r_loadVar (i := 2) (S.grow hb) rfl rfl rfl) ?_) | (refine g_store ?_; first | (refine st_skipE rfl (r_storeVar (i := 0) S rfl rfl rfl rfl (of_decide_eq_true rfl) (of_decide_eq_true rfl)) ?_; intro w S'; replace S := S'; clear S') | (refine st_skipE rfl (r_storeVar (i := 1) S rfl rfl rfl rfl (of_decide_eq_true rfl) (of_decide_eq_true rfl)) ?_; intro w S'; replace S := S'; clear S') | (refine st_skipE rfl (r_storeVar (i := 2) S rfl rfl rfl rfl (of_decide_eq_true rfl) (of_decide_eq_true rfl)) ?_; intro w S'; replace S := S'; clear S')))
    refine st_skipE rfl (r_mapUpdateD (i := 3) (k := x.ID) (v := { d with Count := d.Count - x.Count }) S rfl rfl rfl rfl) ?_
    intro w S'; replace S := S'; clear S'
    repeat' (first | refine WP_seq ?_ | refine WP_region ?_ | refine wl_nil ?_ | refine then_normal ?_ | refine WP_drawTail 6 (by kernel_rfl) (by decide +kernel) ?_ | (refine ql_nil ?_; intro w hb; replace S := S.grow hb; clear hb) | (refine g_b_eql ?_; refine st_val rfl (r_eql rfl rfl) ?_) | (refine g_fieldAddr ?_; refine st_val rfl (r_fieldAddrL rfl) ?_) | (refine g_load ?_; refine st_val rfl (r_loadVar (i := 0) S rfl rfl rfl) ?_) | (refine gq_move ?_; refine q_move rfl ?_) | (refine gq_nilCheck ?_; refine q_val rfl (fun w' hb => r_nilCheck rfl) ?_) | (refine gq_fieldAddr ?_; refine q_val rfl (fun w' hb => r_fieldAddrL rfl) ?_) | (refine gq_load ?_; first | refine q_val rfl (fun w' hb => r_loadVar (i := 1) (S.grow hb) rfl rfl rfl) ?_ | refine q_val rfl (fun w' hb => r_loadVar (i := 2) (S.grow hb) rfl rfl rfl) ?_) | (refine WP_cond rfl (fun h => ?_) (fun h => ?_) <;> (fail_if_success (have hh : true = true := h)) <;> (fail_if_success (have hh : false = false := h)) <;> (try simp only [decide_eq_true_eq, decide_eq_false_iff_not, Bool.not_eq_true', Bool.not_eq_false', Int.not_lt, Int.not_le] at h) <;> (try (exfalso; omega)) <;> (try (exfalso; omega; done))))
    refine st_valE rfl (r_deleteD (i := 3) (k := x.ID) S rfl rfl rfl) ?_
    intro _ w S'; replace S := S'; clear S'
    refine wl_nil ?_
    refine calm_normal ?_
    refine end0 rfl ⟨_, rfl, ?_⟩
    have S2 := S.tail.tail
    rw [← e1] at S2; exact S2
  · have e1 : opM (lessD x.ID x.Count s.op) = mSet (opM s.op) x.ID { d with Count := d.Count - x.Count } := funext fun y => by
      have := hl y
      unfold opM mSet
      rw [this]
      by_cases e : y = x.ID
      · rw [if_pos e, if_pos e, if_neg hz]
      · rw [if_neg e, if_neg e]
    repeat' (first | refine WP_seq ?_ | refine WP_region ?_ | refine wl_nil ?_ | refine then_normal ?_ | refine WP_drawTail 7 (by kernel_rfl) (by decide +kernel) ?_ | (refine ql_nil ?_; intro w hb; replace S := S.grow hb; clear hb) | (refine g_b_sub ?_; (refine st_val rfl (r_subN rfl rfl ?_ ?_) ?_; (first | omega | (simp <;> omega)); (first | omega | (simp <;> omega)))) | (refine g_fieldAddr ?_; refine st_val rfl (r_fieldAddrL rfl) ?_) | (refine g_load ?_; first | refine st_val rfl (r_loadVar (i := 0) S rfl rfl rfl) ?_ | refine st_val rfl (r_loadVar (i := 1) S rfl rfl rfl) ?_) | (refine gq_move ?_; refine q_move rfl ?_) | (refine gq_nilCheck ?_; refine q_val rfl (fun w' hb => r_nilCheck rfl) ?_) | (refine gq_fieldAddr ?_; refine q_val rfl (fun w' hb => r_fieldAddrL rfl) ?_) | (refine gq_load ?_; first | refine q_val rfl (fun w' hb => r_loadVarA (i := 0) (S.grow hb) rfl rfl rfl rfl) ?_ | refine q_val rfl (fun w' hb => r_loadVar (i := 1) (S.grow hb) rfl rfl rfl) ?_ | refine q_val rfl (fun w' hb => r_loadVar (i := 2) (S.grow hb) rfl rfl rfl) ?_) | (refine g_store ?_; first | (refine st_skipE rfl (r_storeVar (i := 0) S rfl rfl rfl rfl (of_decide_eq_true rfl) (of_decide_eq_true rfl)) ?_; intro w S'; replace S := S'; clear S') | (refine st_skipE rfl (r_storeVar (i := 1) S rfl rfl rfl rfl (of_decide_eq_true rfl) (of_decide_eq_true rfl)) ?_; intro w S'; replace S := S'; clear S') | (refine st_skipE rfl (r_storeVar (i := 2) S rfl rfl rfl rfl (of_decide_eq_true rfl) (of_decide_eq_true rfl)) ?_; intro w S'; replace S := S'; clear S')))
    refine st_skipE rfl (r_mapUpdateD (i := 3) (k := x.ID) (v := { d with Count := d.Count - x.Count }) S rfl rfl rfl rfl) ?_
    intro w S'; replace S := S'; clear S'
    repeat' (first | refine WP_seq ?_ | refine WP_region ?_ | refine wl_nil ?_ | refine then_normal ?_ | (refine g_b_eql ?_; refine st_val rfl (r_eql rfl rfl) ?_) | (refine g_fieldAddr ?_; refine st_val rfl (r_fieldAddrL rfl) ?_) | (refine g_load ?_; refine st_val rfl (r_loadVar (i := 0) S rfl rfl rfl) ?_))
    refine WP_cond rfl (fun h => absurd (of_decide_eq_true h) hz) (fun h => ?_)
    refine WP_skip ?_
    refine end0 rfl ⟨_, rfl, ?_⟩
    have S2 := S.tail.tail
    rw [← e1] at S2; exact S2
end
end Go.Proofs.YtgdmaadikcnagaaDoor
/- Deeds done. -/
namespace Go.Proofs.YtgdmaadikcnagaaDoor
open Go Go.Gx Go.RowKit
set_option linter.unusedVariables false
set_option linter.unusedSimpArgs false

abbrev BK3 (bb b1 b2 : Nat) (last : Int) (s : Bk) : List Ob := [.var bb 93 (bkC b1 b2 last s.sums), dOb eI eDt b1 (opM s.op), dOb eI eB b2 (usM s.used)]
/-- Sums within bounds. -/
structure SmOk (s : GSums) : Prop where
  ow : 0 ≤ s.Owed ∧ s.Owed ≤ 1000000
  sv : 0 ≤ s.Served ∧ s.Served ≤ 1000000
  mv : 0 ≤ s.Moved ∧ s.Moved ≤ 1000000
  pd : 0 ≤ s.Paid ∧ s.Paid ≤ 1000000
section
variable {w0 w : World} {bb b1 b2 : Nat} {last : Int} {s : Bk} {x : GDeed} {ex : List Ob}
theorem owe_do (S : St w0 w (BKs bb b1 b2 last s ex)) (hn : ∀ y ∈ s.op, y.ID ≠ x.ID) (hx : 1 ≤ x.Count ∧ x.Count ≤ 50) (hs : SmOk s.sums) : CallsW Tryd.prog 129 #[.pointer (some ⟨bb, 0, none⟩), .agg x.enc.toArray] w (fun _ w' => St w0 w' (BKs bb b1 b2 last (oweB s x) ex)) := by
  have ho := hs.ow
  refine CallsW.mk ?_
  refine calls_enter Tryd.func129 rfl (by intro _ h; first | exact nomatch h.1 | (obtain ⟨_, h, _⟩ := h; exact nomatch h)) Tryd.ntmps129 rfl ?_
  repeat' (first | refine WP_seq ?_ | refine WP_region ?_ | refine wl_nil ?_ | refine then_normal ?_ | (refine g_move ?_; refine st_move rfl ?_) | (refine g_build ?_; refine st_val rfl (bd33_0_1_2_3 rfl rfl rfl rfl) ?_) | (refine g_fieldAddr ?_; refine st_val rfl (r_fieldAddrL rfl) ?_) | (refine g_load ?_; refine st_val rfl (r_loadVar (i := 0) S rfl rfl rfl) ?_) | (refine g_box ?_; refine st_valE rfl (r_box S rfl) ?_; rintro _ w ⟨b, rfl, -, S'⟩; replace S := S'.front; clear S'))
  refine st_callW rfl (r_call2 rfl rfl rfl) (put_run (d := ⟨x.ID, x.Contract, x.Count, x.Due⟩) (ex := .var b 36 x.enc :: ex) (St.into (os := BK3 bb b1 b2 last s) (ex := ex) S) hn) ?_
  intro _ w S'
  replace S : St w0 w (.var b 36 x.enc :: BKs bb b1 b2 last ⟨putD ⟨x.ID, x.Contract, x.Count, x.Due⟩ s.op, setU s.used x.ID, s.sums⟩ ex) := St.outof (os := BK3 bb b1 b2 last ⟨putD ⟨x.ID, x.Contract, x.Count, x.Due⟩ s.op, setU s.used x.ID, s.sums⟩) (ex := ex) S'
  clear S'
  repeat' (first | refine wl_nil ?_ | refine then_normal ?_ | refine WP_drawTail 11 (by kernel_rfl) (by decide +kernel) ?_ | (refine ql_nil ?_; intro w hb; replace S := S.grow hb; clear hb) | (refine gq_move ?_; refine q_move rfl ?_) | (refine gq_b_add ?_; (refine q_val rfl (fun w' hb => r_addN rfl rfl ?_ ?_) ?_; (first | omega | (simp <;> omega)); (first | omega | (simp <;> omega)))) | (refine gq_nilCheck ?_; refine q_val rfl (fun w' hb => r_nilCheck rfl) ?_) | (refine gq_fieldAddr ?_; refine q_val rfl (fun w' hb => r_fieldAddrL rfl) ?_) | (refine q_val rfl (fun w' hb => r_loadVar (i := 1) (S.grow hb) rfl rfl rfl) ?_) | (refine q_val rfl (fun w' hb => r_loadVar (i := 0) (S.grow hb) rfl rfl rfl) ?_))
  refine st_skipE rfl (r_storeVar (i := 1) S rfl rfl rfl rfl (of_decide_eq_true rfl) (of_decide_eq_true rfl)) ?_
  intro w S'; replace S := S'; clear S'
  refine wl_nil ?_
  refine calm_normal ?_
  exact end0 rfl ⟨_, rfl, S.tail⟩
theorem serve_do {d : GDebt} (S : St w0 w (BKs bb b1 b2 last s ex)) (hso : SrtI s.op) (hd : getD x.ID s.op = some d) (hc : 0 ≤ d.Count - x.Count ∧ d.Count ≤ 100) (hx : 1 ≤ x.Count ∧ x.Count ≤ 50) (hs : SmOk s.sums) : CallsW Tryd.prog 133 #[.pointer (some ⟨bb, 0, none⟩), .agg x.enc.toArray] w (fun _ w' => St w0 w' (BKs bb b1 b2 last (serveB s x) ex)) := by
  have ho := hs.sv
  refine CallsW.mk ?_
  refine calls_enter Tryd.func133 rfl (by intro _ h; first | exact nomatch h.1 | (obtain ⟨_, h, _⟩ := h; exact nomatch h)) Tryd.ntmps133 rfl ?_
  repeat' (first | refine WP_seq ?_ | refine WP_region ?_ | refine wl_nil ?_ | refine then_normal ?_ | (refine g_move ?_; refine st_move rfl ?_) | (refine g_load ?_; refine st_val rfl (r_loadVarA (i := 0) S rfl rfl rfl rfl) ?_) | (refine g_box ?_; refine st_valE rfl (r_box S rfl) ?_; rintro _ w ⟨b, rfl, -, S'⟩; replace S := S'.front; clear S'))
  refine st_callW rfl (r_call2 rfl rfl rfl) (less_run (x := x) (ex := .var b 36 x.enc :: ex) (St.into (os := BK3 bb b1 b2 last s) (ex := ex) S) hso hd (by omega)) ?_
  intro _ w S'
  replace S : St w0 w (.var b 36 x.enc :: BKs bb b1 b2 last ⟨lessD x.ID x.Count s.op, s.used, s.sums⟩ ex) := St.outof (os := BK3 bb b1 b2 last ⟨lessD x.ID x.Count s.op, s.used, s.sums⟩) (ex := ex) S'
  clear S'
  repeat' (first | refine wl_nil ?_ | refine then_normal ?_ | refine WP_drawTail 11 (by kernel_rfl) (by decide +kernel) ?_ | (refine ql_nil ?_; intro w hb; replace S := S.grow hb; clear hb) | (refine gq_move ?_; refine q_move rfl ?_) | (refine gq_b_add ?_; (refine q_val rfl (fun w' hb => r_addN rfl rfl ?_ ?_) ?_; (first | omega | (simp <;> omega)); (first | omega | (simp <;> omega)))) | (refine gq_nilCheck ?_; refine q_val rfl (fun w' hb => r_nilCheck rfl) ?_) | (refine gq_fieldAddr ?_; refine q_val rfl (fun w' hb => r_fieldAddrL rfl) ?_) | (refine q_val rfl (fun w' hb => r_loadVar (i := 1) (S.grow hb) rfl rfl rfl) ?_) | (refine q_val rfl (fun w' hb => r_loadVar (i := 0) (S.grow hb) rfl rfl rfl) ?_))
  refine st_skipE rfl (r_storeVar (i := 1) S rfl rfl rfl rfl (of_decide_eq_true rfl) (of_decide_eq_true rfl)) ?_
  intro w S'; replace S := S'; clear S'
  refine wl_nil ?_
  refine calm_normal ?_
  exact end0 rfl ⟨_, rfl, S.tail⟩
theorem pay_do {d : GDebt} (S : St w0 w (BKs bb b1 b2 last s ex)) (hso : SrtI s.op) (hd : getD x.ID s.op = some d) (hc : 0 ≤ d.Count - x.Count ∧ d.Count ≤ 100) (hx : 1 ≤ x.Count ∧ x.Count ≤ 50) (hs : SmOk s.sums) : CallsW Tryd.prog 138 #[.pointer (some ⟨bb, 0, none⟩), .agg x.enc.toArray] w (fun _ w' => St w0 w' (BKs bb b1 b2 last (payB s x) ex)) := by
  have ho := hs.pd
  refine CallsW.mk ?_
  refine calls_enter Tryd.func138 rfl (by intro _ h; first | exact nomatch h.1 | (obtain ⟨_, h, _⟩ := h; exact nomatch h)) Tryd.ntmps138 rfl ?_
  repeat' (first | refine WP_seq ?_ | refine WP_region ?_ | refine wl_nil ?_ | refine then_normal ?_ | (refine g_move ?_; refine st_move rfl ?_) | (refine g_load ?_; refine st_val rfl (r_loadVarA (i := 0) S rfl rfl rfl rfl) ?_) | (refine g_box ?_; refine st_valE rfl (r_box S rfl) ?_; rintro _ w ⟨b, rfl, -, S'⟩; replace S := S'.front; clear S'))
  refine st_callW rfl (r_call2 rfl rfl rfl) (less_run (x := x) (ex := .var b 36 x.enc :: ex) (St.into (os := BK3 bb b1 b2 last s) (ex := ex) S) hso hd (by omega)) ?_
  intro _ w S'
  replace S : St w0 w (.var b 36 x.enc :: BKs bb b1 b2 last ⟨lessD x.ID x.Count s.op, s.used, s.sums⟩ ex) := St.outof (os := BK3 bb b1 b2 last ⟨lessD x.ID x.Count s.op, s.used, s.sums⟩) (ex := ex) S'
  clear S'
  repeat' (first | refine wl_nil ?_ | refine then_normal ?_ | refine WP_drawTail 11 (by kernel_rfl) (by decide +kernel) ?_ | (refine ql_nil ?_; intro w hb; replace S := S.grow hb; clear hb) | (refine gq_move ?_; refine q_move rfl ?_) | (refine gq_b_add ?_; (refine q_val rfl (fun w' hb => r_addN rfl rfl ?_ ?_) ?_; (first | omega | (simp <;> omega)); (first | omega | (simp <;> omega)))) | (refine gq_nilCheck ?_; refine q_val rfl (fun w' hb => r_nilCheck rfl) ?_) | (refine gq_fieldAddr ?_; refine q_val rfl (fun w' hb => r_fieldAddrL rfl) ?_) | (refine q_val rfl (fun w' hb => r_loadVar (i := 1) (S.grow hb) rfl rfl rfl) ?_) | (refine q_val rfl (fun w' hb => r_loadVar (i := 0) (S.grow hb) rfl rfl rfl) ?_))
  refine st_skipE rfl (r_storeVar (i := 1) S rfl rfl rfl rfl (of_decide_eq_true rfl) (of_decide_eq_true rfl)) ?_
  intro w S'; replace S := S'; clear S'
  refine wl_nil ?_
  refine calm_normal ?_
  exact end0 rfl ⟨_, rfl, S.tail⟩
theorem move_do {d : GDebt} (S : St w0 w (BKs bb b1 b2 last s ex)) (hso : SrtI s.op) (hd : getD x.ID s.op = some d) (hc : 0 ≤ d.Count - x.Count ∧ d.Count ≤ 100) (hn : ∀ y ∈ s.op, y.ID ≠ x.To) (hx : 1 ≤ x.Count ∧ x.Count ≤ 50) (hs : SmOk s.sums) : CallsW Tryd.prog 136 #[.pointer (some ⟨bb, 0, none⟩), .agg x.enc.toArray] w (fun _ w' => St w0 w' (BKs bb b1 b2 last (moveB s x (dueB s x)) ex)) := by
  have ho := hs.mv
  have hdu : dueB s x = d.Due := by unfold dueB; rw [hd]
  rw [hdu]
  have hd' : opM s.op x.ID = some d := hd
  have hn' : ∀ y ∈ lessD x.ID x.Count s.op, y.ID ≠ x.To := fun y hy e => by
    obtain ⟨z, hz, e'⟩ := lessD_mem hy
    exact hn z hz (e'.trans e)
  refine CallsW.mk ?_
  refine calls_enter Tryd.func136 rfl (by intro _ h; first | exact nomatch h.1 | (obtain ⟨_, h, _⟩ := h; exact nomatch h)) Tryd.ntmps136 rfl ?_
  repeat' (first | refine WP_seq ?_ | refine WP_region ?_ | refine wl_nil ?_ | refine then_normal ?_ | refine WP_draw (by kernel_rfl) (by kernel_rfl) ?_ | (refine ql_nil ?_; intro w hb; replace S := S.grow hb; clear hb) | (refine g_move ?_; refine st_move rfl ?_) | (refine g_load ?_; refine st_val rfl (r_loadVarA (i := 0) S rfl rfl rfl rfl) ?_) | (refine gq_move ?_; refine q_move rfl ?_) | (refine gq_assign ?_; refine q_assign rfl ?_) | (refine gq_nilCheck ?_; refine q_val rfl (fun w' hb => r_nilCheck rfl) ?_) | (refine gq_fieldAddr ?_; refine q_val rfl (fun w' hb => r_fieldAddrL rfl) ?_) | (refine gq_field ?_; refine q_val rfl (fun w' hb => r_field rfl rfl) ?_) | (refine gq_load ?_; first | refine q_val rfl (fun w' hb => r_loadVar (i := 0) (S.grow hb) rfl rfl rfl) ?_ | refine q_val rfl (fun w' hb => r_loadVar (i := 1) (S.grow hb) rfl rfl rfl) ?_) | (refine g_box ?_; refine st_valE rfl (r_box S rfl) ?_; rintro _ w ⟨b, rfl, -, S'⟩; replace S := S'.front; clear S') | (refine q_val rfl (fun w' hb => r_lookup1S (k := x.ID) ((S.grow hb).dmAt (i := 2) rfl) hd' rfl rfl) ?_))
  refine st_callW rfl (r_call2 rfl rfl rfl) (less_run (x := x) (ex := .var b 36 x.enc :: ex) (St.into (os := BK3 bb b1 b2 last s) (ex := ex) S) hso hd (by omega)) ?_
  intro _ w S'
  replace S : St w0 w (.var b 36 x.enc :: BKs bb b1 b2 last ⟨lessD x.ID x.Count s.op, s.used, s.sums⟩ ex) := St.outof (os := BK3 bb b1 b2 last ⟨lessD x.ID x.Count s.op, s.used, s.sums⟩) (ex := ex) S'
  clear S'
  repeat' (first | refine WP_seq ?_ | refine WP_region ?_ | refine wl_nil ?_ | refine then_normal ?_ | (refine g_move ?_; refine st_move rfl ?_) | (refine g_build ?_; refine st_val rfl (bd33_0_1_2_3 rfl rfl rfl rfl) ?_) | (refine g_fieldAddr ?_; refine st_val rfl (r_fieldAddrL rfl) ?_) | (refine g_load ?_; refine st_val rfl (r_loadVar (i := 0) S rfl rfl rfl) ?_))
  refine st_callW rfl (r_call2 rfl rfl rfl) (put_run (d := ⟨x.To, x.Contract, x.Count, d.Due⟩) (s := ⟨lessD x.ID x.Count s.op, s.used, s.sums⟩) (ex := .var b 36 x.enc :: ex) (St.into (os := BK3 bb b1 b2 last ⟨lessD x.ID x.Count s.op, s.used, s.sums⟩) (ex := ex) S) hn') ?_
  intro _ w S'
  replace S : St w0 w (.var b 36 x.enc :: BKs bb b1 b2 last ⟨putD ⟨x.To, x.Contract, x.Count, d.Due⟩ (lessD x.ID x.Count s.op), setU s.used x.To, s.sums⟩ ex) := St.outof (os := BK3 bb b1 b2 last ⟨putD ⟨x.To, x.Contract, x.Count, d.Due⟩ (lessD x.ID x.Count s.op), setU s.used x.To, s.sums⟩) (ex := ex) S'
  clear S'
  repeat' (first | refine wl_nil ?_ | refine then_normal ?_ | refine WP_drawTail 11 (by kernel_rfl) (by decide +kernel) ?_ | (refine ql_nil ?_; intro w hb; replace S := S.grow hb; clear hb) | (refine gq_move ?_; refine q_move rfl ?_) | (refine gq_b_add ?_; (refine q_val rfl (fun w' hb => r_addN rfl rfl ?_ ?_) ?_; (first | omega | (simp <;> omega)); (first | omega | (simp <;> omega)))) | (refine gq_nilCheck ?_; refine q_val rfl (fun w' hb => r_nilCheck rfl) ?_) | (refine gq_fieldAddr ?_; refine q_val rfl (fun w' hb => r_fieldAddrL rfl) ?_) | (refine q_val rfl (fun w' hb => r_loadVar (i := 1) (S.grow hb) rfl rfl rfl) ?_) | (refine q_val rfl (fun w' hb => r_loadVar (i := 0) (S.grow hb) rfl rfl rfl) ?_))
  refine st_skipE rfl (r_storeVar (i := 1) S rfl rfl rfl rfl (of_decide_eq_true rfl) (of_decide_eq_true rfl)) ?_
  intro w S'; replace S := S'; clear S'
  refine wl_nil ?_
  refine calm_normal ?_
  exact end0 rfl ⟨_, rfl, S.tail⟩
end
end Go.Proofs.YtgdmaadikcnagaaDoor
/- One deed: whether it can be, and done. -/
namespace Go.Proofs.YtgdmaadikcnagaaDoor
open Go Go.Gx Go.RowKit
set_option linter.unusedVariables false
set_option linter.unusedSimpArgs false

abbrev eKd (p : Nat × Nat) : Value := .agg #[fnv p.1, fnv p.2]
/-- The kinds of deeds: what they need, and what they do. -/
def kindsM : Int → Option (Nat × Nat) := fun k => if k = 1 then some (128, 129) else if k = 2 then some (131, 133) else if k = 3 then some (135, 136) else if k = 4 then some (137, 138) else none
structure KindsAt (w : World) : Prop where
  ex : ∃ bk, CellsAt w ⟨0, 0, none⟩ [.map (some bk)] ∧ DMAt w bk eI eKd kindsM
theorem KindsAt.mono {w w' : World} (h : KindsAt w) (hb : Below w.heap.size w w') : KindsAt w' := by
  obtain ⟨bk, h1, h2⟩ := h.ex
  exact ⟨bk, h1.mono hb, h2.mono hb⟩
section
variable {w0 w : World} {bb b1 b2 : Nat} {last : Int} {s s' : Bk} {x : GDeed} {ex : List Ob}
def okIn (last : Int) (x : GDeed) : Prop := betw x.Count 1 50 = true ∧ betw x.At last 9999999 = true ∧ betw x.ID 0 199 = true
theorem into2 {os : List Ob} {o1 o2 : Ob} (S : St w0 w (o1 :: o2 :: (os ++ ex))) : St w0 w (os ++ (o1 :: o2 :: ex)) := S.perm (by
  refine ((List.Perm.cons o1 (List.perm_middle (a := o2) (l₁ := os) (l₂ := ex)).symm).trans ?_)
  exact (List.perm_middle (a := o1) (l₁ := os) (l₂ := o2 :: ex)).symm)
theorem outof2 {os : List Ob} {o1 o2 : Ob} (S : St w0 w (os ++ (o1 :: o2 :: ex))) : St w0 w (o1 :: o2 :: (os ++ ex)) := S.perm (by
  refine (List.perm_middle (a := o1) (l₁ := os) (l₂ := o2 :: ex)).trans (List.Perm.cons o1 ?_)
  exact List.perm_middle)
theorem wrong_none (S : St w0 w (BKs bb b1 b2 last s ex)) (hK : KindsAt w0) (hk : kindsM x.Kind = none) :
    CallsW Tryd.prog 33 #[.pointer (some ⟨bb, 0, none⟩), .agg x.enc.toArray] w (fun v w' => v = .bool true ∧ St w0 w' (BKs bb b1 b2 last s ex)) := by
  obtain ⟨bk, hK1, hK2⟩ := hK.ex
  refine CallsW.mk ?_
  refine calls_enter Tryd.func33 rfl (by intro _ h; first | exact nomatch h.1 | (obtain ⟨_, h, _⟩ := h; exact nomatch h)) Tryd.ntmps33 rfl ?_
  repeat' (first | refine WP_seq ?_ | refine WP_region ?_ | refine wl_nil ?_ | refine then_normal ?_ | refine then_ret ?_ | refine WP_ret ?_ | refine WP_condT rfl ?_ | refine WP_draw (by kernel_rfl) (by kernel_rfl) ?_ | (refine ql_nil ?_; intro w hb; replace S := S.grow hb; clear hb) | (refine g_move ?_; refine st_move rfl ?_) | (refine g_assign ?_; refine st_assign rfl ?_) | (refine g_extract ?_; refine st_val rfl (r_extract rfl rfl) ?_) | (refine g_fieldAddr ?_; refine st_val rfl (r_fieldAddrL rfl) ?_) | (refine g_load ?_; first | refine st_val rfl (r_loadAt (hK1.mono S.below) rfl rfl) ?_ | refine st_val rfl (r_loadVar (i := 0) S rfl rfl rfl) ?_) | (refine gq_guard ?_; refine q_off rfl ?_) | (refine gq_move ?_; refine q_move rfl ?_) | (refine gq_pick ?_; refine q_pickT rfl rfl ?_) | (refine gq_un ?_; refine q_val rfl (fun w' hb => r_not rfl) ?_) | (refine g_box ?_; refine st_valE rfl (r_box S rfl) ?_; rintro _ w ⟨b, rfl, -, S'⟩; replace S := S'.front; clear S') | (refine g_alloc ?_; refine st_valE rfl (r_alloc S) ?_; rintro _ w ⟨b, rfl, -, S'⟩; replace S := S'.front; clear S') | (refine g_store ?_; first | (refine st_skipE rfl (r_storeVar (i := 0) S rfl rfl rfl rfl (of_decide_eq_true rfl) (of_decide_eq_true rfl)) ?_; intro w S'; replace S := S'; clear S') | (refine st_skipE rfl (r_storeVar (i := 1) S rfl rfl rfl rfl (of_decide_eq_true rfl) (of_decide_eq_true rfl)) ?_; intro w S'; replace S := S'; clear S')) | (refine st_val rfl (r_lookupNM (k := x.Kind) (hK2.mono S.below) hk rfl rfl) ?_))
  all_goals exact end1 rfl rfl ⟨_, rfl, rfl, S.tail.tail⟩
set_option maxHeartbeats 2000000 in
theorem wrong_go {fc fd : Nat} {cb : Bool} [Go.Gx.Enters Tryd.prog fc] [Go.Gx.Enters Tryd.prog fd] (S : St w0 w (BKs bb b1 b2 last s ex)) (hK : KindsAt w0) (hk : kindsM x.Kind = some (fc, fd))
    (hcan : ∀ w', BkAt w' bb b1 b2 last s → okIn last x → CallsV Tryd.prog fc #[.pointer (some ⟨bb, 0, none⟩), .agg x.enc.toArray] w' (.bool cb))
    (hdo : cb = true → okIn last x → ∀ (ex' : List Ob) (w1 : World), St w0 w1 (BKs bb b1 b2 last s ex') → CallsW Tryd.prog fd #[.pointer (some ⟨bb, 0, none⟩), .agg x.enc.toArray] w1 (fun _ w' => St w0 w' (BKs bb b1 b2 last s' ex'))) :
    CallsW Tryd.prog 33 #[.pointer (some ⟨bb, 0, none⟩), .agg x.enc.toArray] w (fun v w' => (okIn last x ∧ cb = true ∧ v = .bool false ∧ St w0 w' (BKs bb b1 b2 x.At s' ex)) ∨ (¬ (okIn last x ∧ cb = true) ∧ v = .bool true ∧ St w0 w' (BKs bb b1 b2 last s ex))) := by
  obtain ⟨bk, hK1, hK2⟩ := hK.ex
  refine CallsW.mk ?_
  refine calls_enter Tryd.func33 rfl (by intro _ h; first | exact nomatch h.1 | (obtain ⟨_, h, _⟩ := h; exact nomatch h)) Tryd.ntmps33 rfl ?_
  by_cases hin : okIn last x
  · have hin' := hin
    obtain ⟨i1, i2, i3⟩ := hin'
    cases cb with
    | false =>
      repeat' (first | refine WP_seq ?_ | refine WP_region ?_ | refine wl_nil ?_ | refine then_normal ?_ | refine then_ret ?_ | refine WP_ret ?_ | refine WP_condT rfl ?_ | refine WP_draw (by kernel_rfl) (by kernel_rfl) ?_ | (refine ql_nil ?_; intro w hb; replace S := S.grow hb; clear hb) | (refine g_move ?_; refine st_move rfl ?_) | (refine g_assign ?_; refine st_assign rfl ?_) | (refine g_extract ?_; refine st_val rfl (r_extract rfl rfl) ?_) | (refine g_fieldAddr ?_; refine st_val rfl (r_fieldAddrL rfl) ?_) | (refine g_load ?_; first | refine st_val rfl (r_loadAt (hK1.mono S.below) rfl rfl) ?_ | refine st_val rfl (r_loadVar (i := 0) S rfl rfl rfl) ?_) | (refine gq_move ?_; refine q_move rfl ?_) | (refine gq_pick ?_; refine q_pickF rfl rfl ?_) | (refine gq_nilCheck ?_; refine q_val rfl (fun w' hb => r_nilCheck rfl) ?_) | (refine gq_un ?_; refine q_val rfl (fun w' hb => r_not rfl) ?_) | (refine gq_fieldAddr ?_; refine q_val rfl (fun w' hb => r_fieldAddrL rfl) ?_) | (refine gq_load ?_; first | refine q_val rfl (fun w' hb => r_loadVar (i := 0) (S.grow hb) rfl rfl rfl) ?_ | refine q_val rfl (fun w' hb => r_loadVar (i := 1) (S.grow hb) rfl rfl rfl) ?_ | refine q_val rfl (fun w' hb => r_loadVarA (i := 1) (S.grow hb) rfl rfl rfl rfl) ?_ | refine q_val rfl (fun w' hb => r_loadVar (i := 2) (S.grow hb) rfl rfl rfl) ?_) | (refine gq_callV ?_; first | refine q_callV rfl (fun w' hb => r_call3 rfl rfl rfl rfl) (fun w' hb => bt_spec) ?_ | refine q_callV rfl (fun w' hb => r_call2 rfl rfl rfl) (fun w' hb => (hcan _ ⟨(S.grow hb).var (i := 2) rfl, (S.grow hb).dmAt (i := 3) rfl, (S.grow hb).dmAt (i := 4) rfl⟩ hin)) ?_) | (refine g_box ?_; refine st_valE rfl (r_box S rfl) ?_; rintro _ w ⟨b, rfl, -, S'⟩; replace S := S'.front; clear S') | (refine g_alloc ?_; refine st_valE rfl (r_alloc S) ?_; rintro _ w ⟨b, rfl, -, S'⟩; replace S := S'.front; clear S') | (refine g_store ?_; first | (refine st_skipE rfl (r_storeVar (i := 0) S rfl rfl rfl rfl (of_decide_eq_true rfl) (of_decide_eq_true rfl)) ?_; intro w S'; replace S := S'; clear S') | (refine st_skipE rfl (r_storeVar (i := 1) S rfl rfl rfl rfl (of_decide_eq_true rfl) (of_decide_eq_true rfl)) ?_; intro w S'; replace S := S'; clear S') | (refine st_skipE rfl (r_storeVar (i := 2) S rfl rfl rfl rfl (of_decide_eq_true rfl) (of_decide_eq_true rfl)) ?_; intro w S'; replace S := S'; clear S')) | (refine st_val rfl (r_lookupSM (k := x.Kind) (hK2.mono S.below) hk rfl rfl) ?_) | (refine ql_split rfl rfl (fun h => ?_) (fun h => ?_) <;> (fail_if_success (have hh : true = true := h)) <;> (fail_if_success (have hh : false = false := h)) <;> (try simp only [decide_eq_true_eq, decide_eq_false_iff_not, Bool.not_eq_true', Bool.not_eq_false', Int.not_lt, Int.not_le] at h) <;> (try (exfalso; omega)) <;> (try (exfalso; (first | (rw [i1] at h; cases h) | (rw [i2] at h; cases h) | (rw [i3] at h; cases h)); done))))
      all_goals exact end1 rfl rfl ⟨_, rfl, .inr ⟨(by rintro ⟨_, h⟩; cases h), rfl, S.tail.tail⟩⟩
    | true =>
      have hdo := hdo rfl hin
      repeat' (first | refine WP_seq ?_ | refine WP_region ?_ | refine wl_nil ?_ | refine then_normal ?_ | refine WP_skip ?_ | refine WP_condF rfl ?_ | refine WP_draw (by kernel_rfl) (by kernel_rfl) ?_ | (refine ql_nil ?_; intro w hb; replace S := S.grow hb; clear hb) | (refine g_move ?_; refine st_move rfl ?_) | (refine g_assign ?_; refine st_assign rfl ?_) | (refine g_extract ?_; refine st_val rfl (r_extract rfl rfl) ?_) | (refine g_fieldAddr ?_; refine st_val rfl (r_fieldAddrL rfl) ?_) | (refine g_load ?_; first | refine st_val rfl (r_loadAt (hK1.mono S.below) rfl rfl) ?_ | refine st_val rfl (r_loadVar (i := 0) S rfl rfl rfl) ?_ | refine st_val rfl (r_loadVarA (i := 1) S rfl rfl rfl rfl) ?_) | (refine gq_move ?_; refine q_move rfl ?_) | (refine gq_pick ?_; refine q_pickF rfl rfl ?_) | (refine gq_nilCheck ?_; refine q_val rfl (fun w' hb => r_nilCheck rfl) ?_) | (refine gq_un ?_; refine q_val rfl (fun w' hb => r_not rfl) ?_) | (refine gq_fieldAddr ?_; refine q_val rfl (fun w' hb => r_fieldAddrL rfl) ?_) | (refine gq_load ?_; first | refine q_val rfl (fun w' hb => r_loadVar (i := 0) (S.grow hb) rfl rfl rfl) ?_ | refine q_val rfl (fun w' hb => r_loadVar (i := 1) (S.grow hb) rfl rfl rfl) ?_ | refine q_val rfl (fun w' hb => r_loadVarA (i := 1) (S.grow hb) rfl rfl rfl rfl) ?_ | refine q_val rfl (fun w' hb => r_loadVar (i := 2) (S.grow hb) rfl rfl rfl) ?_) | (refine gq_callV ?_; first | refine q_callV rfl (fun w' hb => r_call3 rfl rfl rfl rfl) (fun w' hb => bt_spec) ?_ | refine q_callV rfl (fun w' hb => r_call2 rfl rfl rfl) (fun w' hb => (hcan _ ⟨(S.grow hb).var (i := 2) rfl, (S.grow hb).dmAt (i := 3) rfl, (S.grow hb).dmAt (i := 4) rfl⟩ hin)) ?_) | (refine g_box ?_; refine st_valE rfl (r_box S rfl) ?_; rintro _ w ⟨b, rfl, -, S'⟩; replace S := S'.front; clear S') | (refine g_alloc ?_; refine st_valE rfl (r_alloc S) ?_; rintro _ w ⟨b, rfl, -, S'⟩; replace S := S'.front; clear S') | (refine g_store ?_; first | (refine st_skipE rfl (r_storeVar (i := 0) S rfl rfl rfl rfl (of_decide_eq_true rfl) (of_decide_eq_true rfl)) ?_; intro w S'; replace S := S'; clear S') | (refine st_skipE rfl (r_storeVar (i := 1) S rfl rfl rfl rfl (of_decide_eq_true rfl) (of_decide_eq_true rfl)) ?_; intro w S'; replace S := S'; clear S') | (refine st_skipE rfl (r_storeVar (i := 2) S rfl rfl rfl rfl (of_decide_eq_true rfl) (of_decide_eq_true rfl)) ?_; intro w S'; replace S := S'; clear S')) | (refine st_val rfl (r_lookupSM (k := x.Kind) (hK2.mono S.below) hk rfl rfl) ?_) | (refine ql_split rfl rfl (fun h => ?_) (fun h => ?_) <;> (fail_if_success (have hh : true = true := h)) <;> (fail_if_success (have hh : false = false := h)) <;> (try simp only [decide_eq_true_eq, decide_eq_false_iff_not, Bool.not_eq_true', Bool.not_eq_false', Int.not_lt, Int.not_le] at h) <;> (try (exfalso; omega)) <;> (try (exfalso; (first | (rw [i1] at h; cases h) | (rw [i2] at h; cases h) | (rw [i3] at h; cases h)); done))))
      refine st_callW rfl (r_call2 rfl rfl rfl) (hdo _ _ (into2 (os := BK3 bb b1 b2 last s) (ex := ex) S)) ?_
      intro _ w S'
      replace S := outof2 (os := BK3 bb b1 b2 last s') (ex := ex) S'
      clear S'
      repeat' (first | refine WP_seq ?_ | refine WP_region ?_ | refine wl_nil ?_ | refine then_normal ?_ | refine WP_ret ?_ | (refine g_move ?_; refine st_move rfl ?_) | (refine g_assign ?_; refine st_assign rfl ?_) | (refine g_nilCheck ?_; refine st_val rfl (r_nilCheck rfl) ?_) | (refine g_fieldAddr ?_; refine st_val rfl (r_fieldAddrL rfl) ?_) | (refine g_load ?_; refine st_val rfl (r_loadVar (i := 1) S rfl rfl rfl) ?_) | (refine g_store ?_; first | (refine st_skipE rfl (r_storeVar (i := 0) S rfl rfl rfl rfl (of_decide_eq_true rfl) (of_decide_eq_true rfl)) ?_; intro w S'; replace S := S'; clear S') | (refine st_skipE rfl (r_storeVar (i := 1) S rfl rfl rfl rfl (of_decide_eq_true rfl) (of_decide_eq_true rfl)) ?_; intro w S'; replace S := S'; clear S') | (refine st_skipE rfl (r_storeVar (i := 2) S rfl rfl rfl rfl (of_decide_eq_true rfl) (of_decide_eq_true rfl)) ?_; intro w S'; replace S := S'; clear S')))
      refine end1 rfl rfl ⟨_, rfl, .inl ⟨hin, rfl, rfl, S.tail.tail⟩⟩
  · repeat' (first | refine WP_seq ?_ | refine WP_region ?_ | refine wl_nil ?_ | refine then_normal ?_ | refine then_ret ?_ | refine WP_ret ?_ | refine WP_condT rfl ?_ | refine WP_draw (by kernel_rfl) (by kernel_rfl) ?_ | (refine ql_nil ?_; intro w hb; replace S := S.grow hb; clear hb) | (refine g_move ?_; refine st_move rfl ?_) | (refine g_assign ?_; refine st_assign rfl ?_) | (refine g_extract ?_; refine st_val rfl (r_extract rfl rfl) ?_) | (refine g_fieldAddr ?_; refine st_val rfl (r_fieldAddrL rfl) ?_) | (refine g_load ?_; first | refine st_val rfl (r_loadAt (hK1.mono S.below) rfl rfl) ?_ | refine st_val rfl (r_loadVar (i := 0) S rfl rfl rfl) ?_) | (refine gq_guard ?_; refine q_off rfl ?_) | (refine gq_move ?_; refine q_move rfl ?_) | (refine gq_pick ?_; first | refine q_pickT rfl rfl ?_ | refine q_pickF rfl rfl ?_) | (refine gq_nilCheck ?_; refine q_val rfl (fun w' hb => r_nilCheck rfl) ?_) | (refine gq_un ?_; refine q_val rfl (fun w' hb => r_not rfl) ?_) | (refine gq_fieldAddr ?_; refine q_val rfl (fun w' hb => r_fieldAddrL rfl) ?_) | (refine gq_load ?_; first | refine q_val rfl (fun w' hb => r_loadVar (i := 1) (S.grow hb) rfl rfl rfl) ?_ | refine q_val rfl (fun w' hb => r_loadVar (i := 2) (S.grow hb) rfl rfl rfl) ?_) | (refine gq_callV ?_; refine q_callV rfl (fun w' hb => r_call3 rfl rfl rfl rfl) (fun w' hb => bt_spec) ?_) | (refine g_box ?_; refine st_valE rfl (r_box S rfl) ?_; rintro _ w ⟨b, rfl, -, S'⟩; replace S := S'.front; clear S') | (refine g_alloc ?_; refine st_valE rfl (r_alloc S) ?_; rintro _ w ⟨b, rfl, -, S'⟩; replace S := S'.front; clear S') | (refine g_store ?_; first | (refine st_skipE rfl (r_storeVar (i := 0) S rfl rfl rfl rfl (of_decide_eq_true rfl) (of_decide_eq_true rfl)) ?_; intro w S'; replace S := S'; clear S') | (refine st_skipE rfl (r_storeVar (i := 1) S rfl rfl rfl rfl (of_decide_eq_true rfl) (of_decide_eq_true rfl)) ?_; intro w S'; replace S := S'; clear S') | (refine st_skipE rfl (r_storeVar (i := 2) S rfl rfl rfl rfl (of_decide_eq_true rfl) (of_decide_eq_true rfl)) ?_; intro w S'; replace S := S'; clear S')) | (refine st_val rfl (r_lookupSM (k := x.Kind) (hK2.mono S.below) hk rfl rfl) ?_) | (refine ql_split rfl rfl (fun h => ?_) (fun h => ?_) <;> (fail_if_success (have hh : true = true := h)) <;> (fail_if_success (have hh : false = false := h)) <;> (try simp only [decide_eq_true_eq, decide_eq_false_iff_not, Bool.not_eq_true', Bool.not_eq_false', Int.not_lt, Int.not_le] at h) <;> (try (exfalso; omega)) <;> (try (exfalso; exact hin ⟨by assumption, by assumption, by assumption⟩; done))))
    all_goals exact end1 rfl rfl ⟨_, rfl, .inr ⟨fun h => hin h.1, rfl, S.tail.tail⟩⟩
end
end Go.Proofs.YtgdmaadikcnagaaDoor
