import Derived.Test.YteplelijhkmbkaaDoorLB
namespace Go.Proofs.YteplelijhkmbkaaDoor
open Go Go.Gx Go.RowKit
set_option linter.unusedVariables false
set_option linter.unusedSimpArgs false

/-! The spots that count depend on the sorted spots alone. -/
def stepS (l : List GContract) (acc : List GSpot) (x : GSpot) : List GSpot := if rsn l acc x = 0 then acc ++ [x] else acc
theorem fold_spots {l : List GContract} {sp : List GSpot} : ∀ (t o : List Int), spAt sp (t.foldl (stepO l sp) o) = (spAt sp t).foldl (stepS l) (spAt sp o)
  | [], o => rfl
  | a :: t, o => by
    have h := fold_spots (l := l) (sp := sp) t (stepO l sp o a)
    have e : spAt sp (stepO l sp o a) = stepS l (spAt sp o) (nth sp a) := by
      unfold stepO stepS
      split
      · unfold spAt; rw [List.map_append]; rfl
      · rfl
    rw [e] at h
    exact h
def srtS (sp : List GSpot) : List GSpot := spAt sp (ordI sp)
theorem cntS_fold (l : List GContract) (sp : List GSpot) : cntS l sp = (srtS sp).foldl (stepS l) [] := fold_spots (ordI sp) []
def leS (s t : GSpot) : Prop := s.At < t.At ∨ (s.At = t.At ∧ s.Contract ≤ t.Contract)
theorem leS_antisymm {s t : GSpot} (h1 : leS s t) (h2 : leS t s) : s = t := by
  cases s; cases t; unfold leS at h1 h2; simp at h1 h2 ⊢; omega
theorem leS_refl (s : GSpot) : leS s s := .inr ⟨rfl, Int.le_refl _⟩
theorem srt_uniq : ∀ {l1 l2 : List GSpot}, l1.Perm l2 → l1.Pairwise leS → l2.Pairwise leS → l1 = l2
  | [], l2, hp, _, _ => (List.nil_perm.1 hp).symm
  | a :: r1, [], hp, _, _ => absurd hp.length_eq (by simp)
  | a :: r1, b :: r2, hp, h1, h2 => by
    have hab : a = b := by
      have ha : a ∈ b :: r2 := hp.mem_iff.1 (List.mem_cons_self ..)
      have hb : b ∈ a :: r1 := hp.mem_iff.2 (List.mem_cons_self ..)
      rcases List.mem_cons.1 ha with e | ha
      · exact e
      · rcases List.mem_cons.1 hb with e | hb
        · exact e.symm
        · exact leS_antisymm ((List.pairwise_cons.1 h1).1 b hb) ((List.pairwise_cons.1 h2).1 a ha)
    subst hab
    rw [srt_uniq (List.Perm.cons_inv hp) (List.pairwise_cons.1 h1).2 (List.pairwise_cons.1 h2).2]
theorem spAt_tab (sp : List GSpot) : spAt sp (tab idf sp.length) = sp := by
  apply List.ext_getElem?
  intro j
  unfold spAt tab
  rw [List.map_map, List.getElem?_map]
  by_cases hj : j < sp.length
  · rw [List.getElem?_range hj]
    have h := nth_get (l := sp) (i := (j : Int)) (by omega) (by omega)
    rw [Int.toNat_natCast] at h
    rw [h]; rfl
  · rw [List.getElem?_eq_none (by simpa using hj), List.getElem?_eq_none (by omega)]; rfl
theorem srtS_perm (sp : List GSpot) : (srtS sp).Perm sp := by
  have h := (ordI_ok sp).perm.map (fun i => nth sp i)
  have e : (tab (fun k => (k : Int)) sp.length).map (fun i => nth sp i) = sp := spAt_tab sp
  rw [e] at h; exact h
theorem rs_leS {sp : List GSpot} {x y : Int} (h : RS (cS sp) x y) : leS (nth sp x) (nth sp y) := by
  rcases h with h | ⟨h, _⟩
  · rcases cS_iff.1 h with h | h
    · exact .inl h
    · exact .inr ⟨h.1, by omega⟩
  · have h2 : ¬ ((nth sp y).At < (nth sp x).At ∨ ((nth sp y).At = (nth sp x).At ∧ (nth sp y).Contract < (nth sp x).Contract)) := fun q => by
      rw [cS_iff.2 q] at h; cases h
    unfold leS; omega
theorem srtS_pw (sp : List GSpot) : (srtS sp).Pairwise leS := by
  unfold srtS spAt
  rw [List.pairwise_map]
  exact (ordI_ok sp).pw.imp fun h => rs_leS h
theorem srtS_of {sp L : List GSpot} (h : L.Perm sp) (hp : L.Pairwise leS) : srtS sp = L := srt_uniq ((srtS_perm sp).trans h.symm) (srtS_pw sp) hp
theorem cntS_perm {l : List GContract} {sp sp' : List GSpot} (h : sp.Perm sp') : cntS l sp = cntS l sp' := by
  rw [cntS_fold, cntS_fold, srtS_of ((srtS_perm sp').trans h.symm) (srtS_pw sp')]
theorem stepS_twice {l : List GContract} {acc : List GSpot} {x : GSpot} : stepS l (stepS l acc x) x = stepS l acc x := by
  by_cases h : rsn l acc x = 0
  · have e : stepS l acc x = acc ++ [x] := if_pos h
    rw [e]
    exact if_neg fun h2 => rsn_fresh h2 (List.mem_append.2 (.inr (List.mem_singleton.2 rfl)))
  · have e : stepS l acc x = acc := if_neg h
    rw [e]; exact e
theorem cntS_dup {l : List GContract} {sp : List GSpot} {x : GSpot} (hx : x ∈ sp) : cntS l (sp ++ [x]) = cntS l sp := by
  obtain ⟨A, B, e⟩ := List.append_of_mem ((srtS_perm sp).mem_iff.2 hx)
  have hp := srtS_pw sp
  rw [e] at hp
  obtain ⟨pA, pB, pAB⟩ := List.pairwise_append.1 hp
  obtain ⟨pxB, pB'⟩ := List.pairwise_cons.1 pB
  have e2 : srtS (sp ++ [x]) = A ++ x :: x :: B := by
    refine srtS_of ?_ ?_
    · refine List.Perm.trans ?_ (List.perm_append_singleton x sp).symm
      refine List.perm_middle.trans ?_
      rw [← e]
      exact (srtS_perm sp).cons x
    · refine List.pairwise_append.2 ⟨pA, List.pairwise_cons.2 ⟨fun y hy => ?_, pB⟩, fun a ha y hy => ?_⟩
      · rcases List.mem_cons.1 hy with rfl | hy
        · exact leS_refl _
        · exact pxB y hy
      · rcases List.mem_cons.1 hy with rfl | hy
        · exact pAB a ha y (List.mem_cons_self ..)
        · exact pAB a ha y hy
  rw [cntS_fold, cntS_fold, e2, e, List.foldl_append, List.foldl_append]
  simp only [List.foldl_cons, stepS_twice]
theorem spAt_append (sp : List GSpot) (a b : List Int) : spAt sp (a ++ b) = spAt sp a ++ spAt sp b := List.map_append
theorem cntS_less {l : List GContract} {sp : List GSpot} {k : Nat} (hk : k < sp.length) (hn : (k : Int) ∉ cntI l sp) : cntS l (sp.take k ++ sp.drop (k + 1)) = cntS l sp := by
  have hm : (k : Int) ∈ ordI sp := by
    refine (ordI_ok sp).perm.mem_iff.2 ?_
    unfold tab
    exact List.mem_map.2 ⟨k, List.mem_range.2 hk, rfl⟩
  obtain ⟨T1, T2, e⟩ := List.append_of_mem hm
  have hx : nth sp (k : Int) = sp[k] := by
    have h := nth_get (l := sp) (i := (k : Int)) (by omega) (by omega)
    rw [Int.toNat_natCast, List.getElem?_eq_getElem hk] at h
    exact (Option.some.inj h).symm
  have hsp : sp = sp.take k ++ sp[k] :: sp.drop (k + 1) := by
    rw [← List.drop_eq_getElem_cons hk, List.take_append_drop]
  have hpw := srtS_pw sp
  have hperm := srtS_perm sp
  unfold srtS at hpw hperm
  rw [e, spAt_append] at hpw hperm
  have eS : spAt sp ((k : Int) :: T2) = nth sp (k : Int) :: spAt sp T2 := rfl
  rw [eS] at hpw hperm
  have e2 : srtS (sp.take k ++ sp.drop (k + 1)) = spAt sp T1 ++ spAt sp T2 := by
    refine srtS_of ?_ ?_
    · have h1 : (nth sp (k : Int) :: (spAt sp T1 ++ spAt sp T2)).Perm (nth sp (k : Int) :: (sp.take k ++ sp.drop (k + 1))) := by
        refine List.perm_middle.symm.trans (hperm.trans ?_)
        rw [hx]
        conv => lhs; rw [hsp]
        exact List.perm_middle
      exact List.Perm.cons_inv h1
    · exact hpw.sublist (List.Sublist.append (List.Sublist.refl _) (List.sublist_cons_self _ _))
  have hst : stepO l sp (T1.foldl (stepO l sp) []) (k : Int) = T1.foldl (stepO l sp) [] := by
    by_cases h0 : rsn l (spAt sp (T1.foldl (stepO l sp) [])) (nth sp (k : Int)) = 0
    · exfalso
      refine hn ?_
      have eo : stepO l sp (T1.foldl (stepO l sp) []) (k : Int) = T1.foldl (stepO l sp) [] ++ [(k : Int)] := if_pos h0
      unfold cntI outOf
      rw [e, List.foldl_append, List.foldl_cons, eo]
      obtain ⟨r, er, _⟩ := @outOf_app l sp T2 (T1.foldl (stepO l sp) [] ++ [(k : Int)])
      rw [er]
      simp
    · exact if_neg h0
  have e3 : cntS l sp = (spAt sp T2).foldl (stepS l) ((spAt sp T1).foldl (stepS l) []) := by
    unfold cntS cntI outOf
    rw [e, List.foldl_append, List.foldl_cons, hst, fold_spots, fold_spots]
    rfl
  rw [cntS_fold, e2, List.foldl_append, e3]
theorem nodup_fold {l : List GContract} : ∀ (t acc : List GSpot), acc.Nodup → (t.foldl (stepS l) acc).Nodup
  | [], acc, h => h
  | a :: t, acc, h => by
    refine nodup_fold t (stepS l acc a) ?_
    unfold stepS
    split
    · rename_i h0
      refine List.nodup_append.2 ⟨h, List.pairwise_singleton _ _, fun x hx y hy e => ?_⟩
      rw [List.mem_singleton.1 hy] at e
      exact rsn_fresh h0 (e ▸ hx)
    · exact h
theorem keptN_one (l : List GContract) (sp : List GSpot) (x : GSpot) : keptN (cntS l sp) x ≤ 1 := by
  have h : (cntS l sp).Nodup := by rw [cntS_fold]; exact nodup_fold _ _ List.nodup_nil
  unfold keptN
  have key : ∀ {L : List GSpot}, L.Nodup → L.countP (fun s => decide (s = x)) ≤ 1 := by
    intro L
    induction L with
    | nil => intro _; simp
    | cons a L ih =>
      intro hn
      obtain ⟨h1, h2⟩ := List.nodup_cons.1 hn
      rw [List.countP_cons]
      by_cases e : a = x
      · have hz : L.countP (fun s => decide (s = x)) = 0 := by
          rw [List.countP_eq_zero]
          intro s hs hd
          have := of_decide_eq_true hd
          exact h1 (by rw [e, ← this]; exact hs)
        rw [hz]; split <;> omega
      · have := ih h2
        simp [e]; exact this
  have := key h
  omega
theorem foldS_app {l : List GContract} : ∀ (t acc : List GSpot), ∃ r, t.foldl (stepS l) acc = acc ++ r ∧ r.Sublist t
  | [], acc => ⟨[], by simp, List.Sublist.refl _⟩
  | a :: t, acc => by
    obtain ⟨r, e, hs⟩ := foldS_app (l := l) t (stepS l acc a)
    by_cases h0 : rsn l acc a = 0
    · have es : stepS l acc a = acc ++ [a] := if_pos h0
      refine ⟨a :: r, ?_, hs.cons_cons a⟩
      rw [List.foldl_cons, e, es]; simp
    · have es : stepS l acc a = acc := if_neg h0
      refine ⟨r, ?_, hs.cons a⟩
      rw [List.foldl_cons, e, es]
theorem cntS_before (l : List GContract) (sp : List GSpot) (t : Int) : ∃ r, cntS l sp = cntS l (sp.filter fun s => decide (s.At < t)) ++ r ∧ ∀ s ∈ r, t ≤ s.At := by
  have e1 : srtS (sp.filter fun s => decide (s.At < t)) = (srtS sp).filter fun s => decide (s.At < t) := srtS_of ((srtS_perm sp).filter _) ((srtS_pw sp).sublist List.filter_sublist)
  have e2 : srtS sp = ((srtS sp).filter fun s => decide (s.At < t)) ++ ((srtS sp).filter fun s => !decide (s.At < t)) := by
    refine srt_uniq (List.filter_append_perm _ _).symm (srtS_pw sp) ?_
    refine List.pairwise_append.2 ⟨(srtS_pw sp).sublist List.filter_sublist, (srtS_pw sp).sublist List.filter_sublist, fun a ha b hb => ?_⟩
    have h1 := (List.mem_filter.1 ha).2
    have h2 := (List.mem_filter.1 hb).2
    simp at h1 h2
    exact .inl (by omega)
  obtain ⟨r, e, hs⟩ := foldS_app (l := l) ((srtS sp).filter fun s => !decide (s.At < t)) (cntS l (sp.filter fun s => decide (s.At < t)))
  refine ⟨r, ?_, fun s hs' => ?_⟩
  · rw [cntS_fold l sp, e2, List.foldl_append, ← e1, ← cntS_fold, e]
  · have := (List.mem_filter.1 (hs.subset hs')).2
    simp at this; exact this
/-! A spot that comes last. -/
theorem nth_left {sp : List GSpot} {z : GSpot} {i : Int} (h0 : 0 ≤ i) (hi : i < sp.length) : nth (sp ++ [z]) i = nth sp i := by
  have h1 := nth_get (l := sp ++ [z]) (i := i) h0 (by rw [List.length_append]; simp; omega)
  have h2 := nth_get (l := sp) (i := i) h0 hi
  rw [List.getElem?_append_left (by omega), h2] at h1
  exact (Option.some.inj h1).symm
theorem nth_last {sp : List GSpot} {z : GSpot} : nth (sp ++ [z]) (sp.length : Int) = z := by
  have h1 := nth_get (l := sp ++ [z]) (i := (sp.length : Int)) (by omega) (by rw [List.length_append, List.length_singleton]; omega)
  rw [Int.toNat_natCast, List.getElem?_append_right (Nat.le_refl _), Nat.sub_self] at h1
  exact (Option.some.inj h1).symm
theorem spAt_left {sp : List GSpot} {z : GSpot} {o : List Int} (h : ∀ x ∈ o, 0 ≤ x ∧ x < sp.length) : spAt (sp ++ [z]) o = spAt sp o :=
  List.map_congr_left fun x hx => nth_left (h x hx).1 (h x hx).2
theorem outOf_left {l : List GContract} {sp : List GSpot} {z : GSpot} : ∀ (t o : List Int), (∀ x ∈ t, 0 ≤ x ∧ x < sp.length) → (∀ x ∈ o, 0 ≤ x ∧ x < sp.length) → t.foldl (stepO l (sp ++ [z])) o = t.foldl (stepO l sp) o
  | [], o, _, _ => rfl
  | a :: t, o, ht, ho => by
    have ha := ht a (List.mem_cons_self ..)
    have e : stepO l (sp ++ [z]) o a = stepO l sp o a := by unfold stepO; rw [spAt_left ho, nth_left ha.1 ha.2]
    rw [List.foldl_cons, List.foldl_cons, e]
    refine outOf_left t _ (fun x hx => ht x (List.mem_cons_of_mem _ hx)) fun x hx => ?_
    unfold stepO at hx
    split at hx
    · rcases List.mem_append.1 hx with hx | hx
      · exact ho x hx
      · rw [List.mem_singleton.1 hx]; exact ha
    · exact ho x hx
theorem cS_left {sp : List GSpot} {z : GSpot} {x y : Int} (hx : 0 ≤ x ∧ x < sp.length) (hy : 0 ≤ y ∧ y < sp.length) : cS (sp ++ [z]) x y = cS sp x y := by
  rw [Bool.eq_iff_iff, cS_iff, cS_iff, nth_left hx.1 hx.2, nth_left hy.1 hy.2]
theorem ord_last {sp : List GSpot} {z : GSpot} (hz : ∀ s ∈ sp, leS s z) : ordI (sp ++ [z]) = ordI sp ++ [(sp.length : Int)] := by
  have hO := ordI_ok sp
  symm
  refine Ord.eq ⟨?_, ?_⟩
  · have et : tab (fun k => (k : Int)) (sp ++ [z]).length = tab (fun k => (k : Int)) sp.length ++ [(sp.length : Int)] := by
      rw [List.length_append, List.length_singleton]
      unfold tab; rw [List.range_succ, List.map_append]; rfl
    rw [et]
    exact hO.perm.append_right _
  · refine List.pairwise_append.2 ⟨?_, List.pairwise_singleton _ _, fun a ha b hb => ?_⟩
    · refine List.Pairwise.imp_of_mem ?_ hO.pw
      intro a b ha hb h
      unfold RS at h ⊢
      rw [cS_left (hO.mem ha) (hO.mem hb), cS_left (hO.mem hb) (hO.mem ha)]
      exact h
    · rw [List.mem_singleton.1 hb]
      have har := hO.mem ha
      have hle := hz _ (nth_mem har.1 har.2)
      refine .inr ⟨?_, har.2⟩
      cases h : cS (sp ++ [z]) (sp.length : Int) a with
      | false => rfl
      | true =>
        rw [cS_iff, nth_last, nth_left har.1 har.2] at h
        unfold leS at hle
        omega
theorem cntI_last {l : List GContract} {sp : List GSpot} {z : GSpot} (hz : ∀ s ∈ sp, leS s z) : cntI l (sp ++ [z]) = if rsn l (cntS l sp) z = 0 then cntI l sp ++ [(sp.length : Int)] else cntI l sp := by
  have hO := ordI_ok sp
  unfold cntI outOf
  rw [ord_last hz, List.foldl_append, outOf_left (ordI sp) [] (fun x hx => hO.mem hx) (fun x hx => by cases hx)]
  show stepO l (sp ++ [z]) (cntI l sp) (sp.length : Int) = _
  unfold stepO
  rw [spAt_left (fun x hx => cntI_mem hx), nth_last]
  rfl
/-! Contracts of one category. -/
theorem find_filter {p : GContract → Bool} {id : Int} : ∀ {l : List GContract}, l.Pairwise (fun a b => a.ID < b.ID) → cFind (l.filter p) id = (cFind l id).filter p
  | [], _ => rfl
  | a :: l, h => by
    obtain ⟨h1, h2⟩ := List.pairwise_cons.1 h
    have ih := find_filter (p := p) (id := id) h2
    unfold cFind at ih ⊢
    by_cases hid : a.ID = id
    · have hr : (a :: l).find? (fun c => decide (c.ID = id)) = some a := List.find?_cons_of_pos (by simpa using hid)
      rw [hr]
      cases hp : p a with
      | true =>
        rw [List.filter_cons_of_pos hp, List.find?_cons_of_pos (by simpa using hid)]
        simp [Option.filter, hp]
      | false =>
        rw [List.filter_cons_of_neg (by simp [hp])]
        have : (l.filter p).find? (fun c => decide (c.ID = id)) = none := by
          rw [List.find?_eq_none]
          intro c hc
          have := h1 c (List.mem_filter.1 hc).1
          simp; omega
        rw [this]
        simp [Option.filter, hp]
    · have hr : (a :: l).find? (fun c => decide (c.ID = id)) = l.find? (fun c => decide (c.ID = id)) := List.find?_cons_of_neg (by simpa using hid)
      rw [hr]
      cases hp : p a with
      | true => rw [List.filter_cons_of_pos hp, List.find?_cons_of_neg (by simpa using hid)]; exact ih
      | false => rw [List.filter_cons_of_neg (by simp [hp])]; exact ih
theorem valid_pw {l : List GContract} (h : validC l = true) : l.Pairwise (fun a b => a.ID < b.ID) := by
  rw [List.pairwise_iff_getElem]
  intro i j hi hj hij
  have h1 := nth_get (l := l) (i := (i : Int)) (by omega) (by omega)
  have h2 := nth_get (l := l) (i := (j : Int)) (by omega) (by omega)
  rw [Int.toNat_natCast, List.getElem?_eq_getElem (by omega)] at h1 h2
  rw [Option.some.inj h1, Option.some.inj h2]
  exact valid_lt h _ _ (by omega) (by omega) (by omega)
theorem valid_of_pw {l : List GContract} (h1 : ∀ c ∈ l, okC c = true) (h2 : l.Pairwise (fun a b => a.ID < b.ID)) (h3 : l.length ≤ 12) : validC l = true := by
  refine validC_of (fun j h0 hj => ?_) (decide_eq_true h3)
  refine okAt_of (h1 _ (nth_mem h0 hj)) ?_
  unfold prevC
  split
  · have := okC_id (h1 _ (nth_mem h0 hj)); omega
  · have e1 := nth_get (l := l) (i := j - 1) (by omega) (by omega)
    have e2 := nth_get (l := l) (i := j) h0 hj
    rw [List.getElem?_eq_getElem (by omega)] at e1 e2
    have := List.pairwise_iff_getElem.1 h2 (j - 1).toNat j.toNat (by omega) (by omega) (by omega)
    rw [Option.some.inj e1, Option.some.inj e2] at this
    exact this
theorem valid_filter {l : List GContract} (h : validC l = true) (p : GContract → Bool) : validC (l.filter p) = true :=
  valid_of_pw (fun c hc => valid_ok h (List.mem_filter.1 hc).1) ((valid_pw h).sublist List.filter_sublist) (by have := List.length_filter_le p l; have := validC_len h; omega)
def inCat (few : List GContract) (sp : List GSpot) (i : Int) : Bool := (cFind few (nth sp i).Contract).isSome
theorem filter_some_inv {p : GContract → Bool} {a b : GContract} (h : (some a).filter p = some b) : a = b ∧ p a = true := by
  cases hp : p a with
  | true => simp [Option.filter, hp] at h; exact ⟨h, rfl⟩
  | false => simp [Option.filter, hp] at h
theorem cat_rsn {l : List GContract} {sp : List GSpot} {k : Int} (hv : validC l = true) {o : List Int} (ho : ∀ s ∈ spAt sp o, cFind l s.Contract ≠ none) {i : Int} (hi : inCat (l.filter fun c => decide (c.Category = k)) sp i = true) :
    rsn (l.filter fun c => decide (c.Category = k)) (spAt sp (o.filter (inCat (l.filter fun c => decide (c.Category = k)) sp))) (nth sp i) = 0 ↔ rsn l (spAt sp o) (nth sp i) = 0 := by
  obtain ⟨few, hfew⟩ : ∃ few, l.filter (fun c => decide (c.Category = k)) = few := ⟨_, rfl⟩
  have hff : ∀ id, cFind few id = (cFind l id).filter fun c => decide (c.Category = k) := fun id => by rw [← hfew]; exact find_filter (valid_pw hv)
  rw [hfew] at hi ⊢
  obtain ⟨x, hx⟩ : ∃ x, nth sp i = x := ⟨_, rfl⟩
  unfold inCat at hi
  rw [hx] at hi ⊢
  obtain ⟨c, hc⟩ := Option.isSome_iff_exists.1 hi
  have hcl : cFind l x.Contract = some c ∧ c.Category = k := by
    rw [hff] at hc
    cases h : cFind l x.Contract with
    | none => rw [h] at hc; cases hc
    | some d =>
      rw [h] at hc
      obtain ⟨rfl, hd⟩ := filter_some_inv hc
      exact ⟨rfl, of_decide_eq_true hd⟩
  -- those with the same contract stay
  have hkeep : ∀ j ∈ o, (nth sp j).Contract = x.Contract → inCat few sp j = true := fun j _ e => by unfold inCat; rw [e, hc]; rfl
  have hC : cntC (spAt sp (o.filter (inCat few sp))) x.Contract = cntC (spAt sp o) x.Contract := by
    unfold cntC spAt
    rw [List.countP_map, List.countP_map, List.countP_filter]
    congr 1
    refine List.countP_congr fun j hj => ?_
    simp only [Function.comp, Bool.and_eq_true, decide_eq_true_eq]
    exact ⟨fun h => h.1, fun h => ⟨h, hkeep j hj h⟩⟩
  have hD : cntD (spAt sp (o.filter (inCat few sp))) (onD x) = cntD (spAt sp o) (onD x) := by
    unfold cntD spAt
    rw [List.countP_map, List.countP_map, List.countP_filter]
    congr 1
    refine List.countP_congr fun j hj => ?_
    simp only [Function.comp, Bool.and_eq_true, decide_eq_true_eq]
    exact ⟨fun h => h.1, fun h => ⟨h, hkeep j hj (by have := congrArg GDay.contract h; exact this)⟩⟩
  have hM : x ∈ spAt sp (o.filter (inCat few sp)) ↔ x ∈ spAt sp o := by
    unfold spAt
    rw [List.mem_map, List.mem_map]
    constructor
    · rintro ⟨j, hj, e⟩; exact ⟨j, (List.mem_filter.1 hj).1, e⟩
    · rintro ⟨j, hj, e⟩; exact ⟨j, List.mem_filter.2 ⟨hj, hkeep j hj (by rw [e])⟩, e⟩
  have hN : ((spAt sp (o.filter (inCat few sp))).any fun s => nearI ((cFind few s.Contract).getD default) c s x.At) = ((spAt sp o).any fun s => nearI ((cFind l s.Contract).getD default) c s x.At) := by
    rw [Bool.eq_iff_iff, List.any_eq_true, List.any_eq_true]
    constructor
    · rintro ⟨s, hs, h⟩
      obtain ⟨j, hj, rfl⟩ := List.mem_map.1 hs
      obtain ⟨hj1, hj2⟩ := List.mem_filter.1 hj
      refine ⟨nth sp j, List.mem_map.2 ⟨j, hj1, rfl⟩, ?_⟩
      unfold inCat at hj2
      obtain ⟨d, hd⟩ := Option.isSome_iff_exists.1 hj2
      have hdl : cFind l (nth sp j).Contract = some d := by
        have h3 := hd
        rw [hff] at h3
        cases h2 : cFind l (nth sp j).Contract with
        | none => rw [h2] at h3; cases h3
        | some d' =>
          rw [h2] at h3
          rw [(filter_some_inv h3).1]
      rw [hd] at h; rw [hdl]; exact h
    · rintro ⟨s, hs, h⟩
      obtain ⟨j, hj, rfl⟩ := List.mem_map.1 hs
      have hfl := ho _ hs
      cases h2 : cFind l (nth sp j).Contract with
      | none => exact absurd h2 hfl
      | some d =>
        rw [h2] at h
        have hcat : d.Category = c.Category := (of_decide_eq_true h).1
        have hdf : cFind few (nth sp j).Contract = some d := by
          rw [hff, h2]
          simp [Option.filter, hcat, hcl.2]
        refine ⟨nth sp j, List.mem_map.2 ⟨j, List.mem_filter.2 ⟨hj, ?_⟩, rfl⟩, ?_⟩
        · unfold inCat; rw [hdf]; rfl
        · rw [hdf]; exact h
  rw [rsn_zero, rsn_zero]
  constructor
  · rintro ⟨c', h1, h2, h3, h4, h5, h6, h7⟩
    rw [hc] at h1; cases h1
    exact ⟨c, hcl.1, h2, h3, fun h => h4 (hM.2 h), by rw [← hC]; exact h5, by rw [← hD]; exact h6, by rw [← hN]; exact h7⟩
  · rintro ⟨c', h1, h2, h3, h4, h5, h6, h7⟩
    rw [hcl.1] at h1; cases h1
    exact ⟨c, hc, h2, h3, fun h => h4 (hM.1 h), by rw [hC]; exact h5, by rw [hD]; exact h6, by rw [hN]; exact h7⟩
theorem cat_fold {l : List GContract} {sp : List GSpot} {k : Int} (hv : validC l = true) : ∀ (t o : List Int), (∀ s ∈ spAt sp o, cFind l s.Contract ≠ none) →
    (t.foldl (stepO l sp) o).filter (inCat (l.filter fun c => decide (c.Category = k)) sp) = t.foldl (stepO (l.filter fun c => decide (c.Category = k)) sp) (o.filter (inCat (l.filter fun c => decide (c.Category = k)) sp))
  | [], o, _ => rfl
  | a :: t, o, ho => by
    have ih := cat_fold (k := k) hv t (stepO l sp o a) (by
      intro s hs
      unfold stepO at hs
      split at hs
      · rename_i h0
        rw [spAt_append] at hs
        rcases List.mem_append.1 hs with hs | hs
        · exact ho s hs
        · rw [List.mem_singleton.1 (show s ∈ [nth sp a] from hs)]; exact rsn_found h0
      · exact ho s hs)
    rw [List.foldl_cons, List.foldl_cons, ih]
    congr 1
    cases hi : inCat (l.filter fun c => decide (c.Category = k)) sp a with
    | true =>
      have hr := cat_rsn (k := k) hv ho hi
      by_cases h0 : rsn l (spAt sp o) (nth sp a) = 0
      · unfold stepO
        rw [if_pos h0, if_pos (hr.2 h0), List.filter_append]
        simp [hi]
      · unfold stepO
        rw [if_neg h0, if_neg (fun h => h0 (hr.1 h))]
    | false =>
      have hn : ∀ o', ¬ rsn (l.filter fun c => decide (c.Category = k)) o' (nth sp a) = 0 := fun o' h => by
        have := rsn_found h
        unfold inCat at hi
        cases h2 : cFind (l.filter fun c => decide (c.Category = k)) (nth sp a).Contract with
        | none => exact this h2
        | some d => rw [h2] at hi; cases hi
      unfold stepO
      rw [if_neg (hn _)]
      split
      · rw [List.filter_append]; simp [hi]
      · rfl
theorem cntI_cat {l : List GContract} {sp : List GSpot} {k : Int} (hv : validC l = true) : cntI (l.filter fun c => decide (c.Category = k)) sp = (cntI l sp).filter (inCat (l.filter fun c => decide (c.Category = k)) sp) :=
  (cat_fold hv (ordI sp) [] (fun s hs => by cases hs)).symm
end Go.Proofs.YteplelijhkmbkaaDoor
