/-
  Uses are given to grants by augmenting ways: what the search comes to, in plain Lean.
-/
namespace Go.Proofs.Ytfdjnadopniaeaa.Kuhn
set_option linter.unusedVariables false
set_option linter.unusedSimpArgs false
structure KS where
  seen : List Bool
  given : List (List Nat)
def KS.sn (s : KS) (k : Nat) : Bool := s.seen.getD k false
def KS.row (s : KS) (k : Nat) : List Nat := s.given.getD k []
def KS.mark (s : KS) (k : Nat) : KS := { s with seen := s.seen.set k true }
def KS.push (s : KS) (k u : Nat) : KS := { s with given := s.given.set k (s.row k ++ [u]) }
def KS.put (s : KS) (k n u : Nat) : KS := { s with given := s.given.set k ((s.row k).set n u) }
def loopN (rec_ : Nat → KS → Bool × KS) : List Nat → Nat → KS → Option Nat × KS
  | [], _, s => (none, s)
  | o :: os, n, s => if (rec_ o s).1 then (some n, (rec_ o s).2) else loopN rec_ os (n + 1) (rec_ o s).2
def loopK (perm : Nat → Nat → Bool) (plays : Nat → Nat) (rec_ : Nat → KS → Bool × KS) (u : Nat) : List Nat → KS → Bool × KS
  | [], s => (false, s)
  | k :: ks, s =>
    if s.sn k || !perm k u then loopK perm plays rec_ u ks s
    else if (s.row k).length < plays k then (true, (s.mark k).push k u)
    else match loopN rec_ (s.row k) 0 (s.mark k) with
      | (some n, s') => (true, s'.put k n u)
      | (none, s') => loopK perm plays rec_ u ks s'
def give (perm : Nat → Nat → Bool) (plays : Nat → Nat) (m : Nat) : Nat → Nat → KS → Bool × KS
  | 0, _, s => (false, s)
  | f + 1, u, s => loopK perm plays (give perm plays m f) u (List.range m) s

section
variable {perm : Nat → Nat → Bool} {plays : Nat → Nat} {m : Nat}
structure Ok (perm : Nat → Nat → Bool) (plays : Nat → Nat) (m : Nat) (s : KS) : Prop where
  sl : s.seen.length = m
  gl : s.given.length = m
  pm : ∀ k, k < m → ∀ o ∈ s.row k, perm k o = true
  cp : ∀ k, k < m → (s.row k).length ≤ plays k
def unseen (s : KS) : Nat := s.seen.countP (fun b => !b)
def flat (s : KS) : List Nat := s.given.flatten

theorem sn_mark {s : KS} {k j : Nat} (hk : k < s.seen.length) : (s.mark k).sn j = if j = k then true else s.sn j := by
  unfold KS.mark KS.sn
  simp only [List.getD, List.getElem?_set]
  by_cases e : k = j
  · subst e; simp [hk]
  · rw [if_neg e, if_neg (fun h => e h.symm)]
theorem row_mark (s : KS) (k j : Nat) : (s.mark k).row j = s.row j := rfl
theorem countP_set_true : ∀ (l : List Bool) (k : Nat), l.getD k true = false → (l.set k true).countP (fun b => !b) + 1 = l.countP (fun b => !b)
  | [], k, h => by simp [List.getD] at h
  | b :: l, 0, h => by
    simp [List.getD] at h; subst h; simp
  | b :: l, k + 1, h => by
    have := countP_set_true l k (by simpa [List.getD] using h)
    simp only [List.set_cons_succ, List.countP_cons]; omega
theorem unseen_mark {s : KS} {k : Nat} (hk : k < s.seen.length) (h : s.sn k = false) : unseen (s.mark k) + 1 = unseen s := by
  refine countP_set_true s.seen k ?_
  unfold KS.sn at h
  simp only [List.getD, List.getElem?_eq_getElem hk, Option.getD_some] at h ⊢
  exact h
theorem unseen_mono {s s' : KS} (hl : s'.seen.length = s.seen.length) (h : ∀ k, s.sn k = true → s'.sn k = true) : unseen s' ≤ unseen s := by
  have key : ∀ (l l' : List Bool), l'.length = l.length → (∀ k : Nat, l.getD k false = true → l'.getD k false = true) → l'.countP (fun b => !b) ≤ l.countP (fun b => !b) := by
    intro l
    induction l with
    | nil => intro l' h _; rw [List.length_eq_zero_iff.1 h]; exact Nat.le_refl _
    | cons b l ih =>
      intro l' hl h
      cases l' with
      | nil => simp at hl
      | cons b' l' =>
        have h1 := ih l' (by simpa using hl) (fun k hk => by have := h (k + 1) (by simpa [List.getD] using hk); simpa [List.getD] using this)
        have h2 := h 0
        simp only [List.countP_cons]
        cases b <;> cases b' <;> simp [List.getD] at h2 ⊢ <;> omega
  exact key _ _ hl h

theorem row_set {s : KS} {k j : Nat} {r : List Nat} (hk : k < s.given.length) : ({ s with given := s.given.set k r } : KS).row j = if j = k then r else s.row j := by
  unfold KS.row
  simp only [List.getD, List.getElem?_set]
  by_cases e : k = j
  · subst e; simp [hk]
  · rw [if_neg e, if_neg (fun h => e h.symm)]
theorem flatten_set : ∀ (l : List (List Nat)) (k : Nat) (r : List Nat) (u : Nat), k < l.length → r.Perm (u :: l.getD k []) → (l.set k r).flatten.Perm (u :: l.flatten)
  | [], k, r, u, h, _ => by simp at h
  | a :: l, 0, r, u, _, hp => by
    simp [List.getD] at hp
    simp only [List.set_cons_zero, List.flatten_cons]
    exact (hp.append_right _)
  | a :: l, k + 1, r, u, h, hp => by
    have := flatten_set l k r u (by simpa using h) (by simpa [List.getD] using hp)
    simp only [List.set_cons_succ, List.flatten_cons]
    exact (this.append_left a).trans (List.perm_middle)
theorem flatten_swap : ∀ (l : List (List Nat)) (k : Nat) (r : List Nat) (u o : Nat), k < l.length → (o :: r).Perm (u :: l.getD k []) → (o :: (l.set k r).flatten).Perm (u :: l.flatten)
  | [], k, r, u, o, h, _ => by simp at h
  | a :: l, 0, r, u, o, _, hp => by
    simp [List.getD] at hp
    simp only [List.set_cons_zero, List.flatten_cons]
    exact (hp.append_right l.flatten)
  | a :: l, k + 1, r, u, o, h, hp => by
    have := flatten_swap l k r u o (by simpa using h) (by simpa [List.getD] using hp)
    simp only [List.set_cons_succ, List.flatten_cons]
    exact ((List.perm_middle).symm.trans (this.append_left a)).trans (List.perm_middle)
theorem set_swap : ∀ (l : List Nat) (n o u : Nat), l[n]? = some o → (o :: l.set n u).Perm (u :: l)
  | [], n, o, u, h => by simp at h
  | a :: l, 0, o, u, h => by simp at h; subst h; simp only [List.set_cons_zero]; exact List.Perm.swap _ _ _
  | a :: l, n + 1, o, u, h => by
    have := set_swap l n o u (by simpa using h)
    simp only [List.set_cons_succ]
    exact (List.Perm.swap _ _ _).trans ((this.cons a).trans (List.Perm.swap _ _ _))

/-- What was seen since, and what it holds, is closed. -/
def Cl (perm : Nat → Nat → Bool) (plays : Nat → Nat) (m : Nat) (s s' : KS) : Prop :=
  ∀ k, k < m → s'.sn k = true → s.sn k = false → (s.row k).length = plays k ∧ ∀ o ∈ s.row k, ∀ j, j < m → perm j o = true → s'.sn j = true
structure Grow (perm : Nat → Nat → Bool) (plays : Nat → Nat) (m : Nat) (s s' : KS) : Prop where
  ok : Ok perm plays m s'
  mono : ∀ k, s.sn k = true → s'.sn k = true
  keep : ∀ k, s.sn k = true → s'.row k = s.row k
structure Fails (perm : Nat → Nat → Bool) (plays : Nat → Nat) (m : Nat) (s s' : KS) : Prop extends Grow perm plays m s s' where
  same : s'.given = s.given
  cl : Cl perm plays m s s'
theorem Grow.refl {s : KS} (h : Ok perm plays m s) : Grow perm plays m s s := ⟨h, fun _ h => h, fun _ _ => rfl⟩
theorem Fails.refl {s : KS} (h : Ok perm plays m s) : Fails perm plays m s s := ⟨Grow.refl h, rfl, fun k _ h1 h2 => by rw [h1] at h2; cases h2⟩
theorem Grow.trans {a b c : KS} (h : Grow perm plays m a b) (g : Grow perm plays m b c) : Grow perm plays m a c := ⟨g.ok, fun k hk => g.mono k (h.mono k hk), fun k hk => (g.keep k (h.mono k hk)).trans (h.keep k hk)⟩
theorem row_of_given {a b : KS} (h : b.given = a.given) (k : Nat) : b.row k = a.row k := by unfold KS.row; rw [h]
theorem Fails.trans {a b c : KS} (h : Fails perm plays m a b) (g : Fails perm plays m b c) : Fails perm plays m a c := by
  refine ⟨h.toGrow.trans g.toGrow, g.same.trans h.same, fun k hk h1 h2 => ?_⟩
  by_cases e : b.sn k = true
  · obtain ⟨p, q⟩ := h.cl k hk e h2
    exact ⟨p, fun o ho j hj hp => g.mono j (q o ho j hj hp)⟩
  · have e' : b.sn k = false := by simpa using e
    obtain ⟨p, q⟩ := g.cl k hk h1 e'
    rw [row_of_given h.same] at p q
    exact ⟨p, q⟩
def Post (perm : Nat → Nat → Bool) (plays : Nat → Nat) (m : Nat) (u : Nat) (s : KS) (r : Bool × KS) : Prop :=
  (r.1 = true → Grow perm plays m s r.2 ∧ (flat r.2).Perm (u :: flat s)) ∧
  (r.1 = false → Fails perm plays m s r.2 ∧ ∀ k, k < m → perm k u = true → r.2.sn k = true)

theorem loopN_spec {f : Nat} {rec_ : Nat → KS → Bool × KS} (hrec : ∀ u s, Ok perm plays m s → unseen s < f → Post perm plays m u s (rec_ u s)) :
    ∀ (os : List Nat) (n : Nat) (s : KS), Ok perm plays m s → unseen s < f →
      match loopN rec_ os n s with
      | (some n', s') => Grow perm plays m s s' ∧ ∃ j o, n' = n + j ∧ os[j]? = some o ∧ (flat s').Perm (o :: flat s)
      | (none, s') => Fails perm plays m s s' ∧ ∀ o ∈ os, ∀ k, k < m → perm k o = true → s'.sn k = true
  | [], n, s, h, _ => ⟨Fails.refl h, fun o ho => by cases ho⟩
  | o :: os, n, s, h, hu => by
    obtain ⟨ht, hf⟩ := hrec o s h hu
    unfold loopN
    cases hr : (rec_ o s).1 with
    | true =>
      simp only [if_true]
      obtain ⟨g, p⟩ := ht hr
      exact ⟨g, 0, o, rfl, rfl, p⟩
    | false =>
      simp only [Bool.false_eq_true, if_false]
      obtain ⟨g, p⟩ := hf hr
      have hu' : unseen (rec_ o s).2 < f := Nat.lt_of_le_of_lt (unseen_mono (by rw [g.ok.sl, h.sl]) g.mono) hu
      have ih := loopN_spec hrec os (n + 1) (rec_ o s).2 g.ok hu'
      split at ih
      · rename_i n' s' he
        obtain ⟨g2, j, o', e1, e2, p2⟩ := ih
        have hfl : flat (rec_ o s).2 = flat s := by unfold flat; rw [g.same]
        rw [hfl] at p2
        exact ⟨g.toGrow.trans g2, j + 1, o', by omega, by simpa using e2, p2⟩
      · rename_i s' he
        obtain ⟨g2, q⟩ := ih
        refine ⟨g.trans g2, fun x hx k hk hp => ?_⟩
        rcases List.mem_cons.1 hx with rfl | hx
        · exact g2.mono k (p k hk hp)
        · exact q x hx k hk hp

theorem ok_mark {s : KS} (h : Ok perm plays m s) (k : Nat) : Ok perm plays m (s.mark k) := ⟨by simp [KS.mark, h.sl], h.gl, h.pm, h.cp⟩

theorem loopK_spec {f u : Nat} {rec_ : Nat → KS → Bool × KS} (hrec : ∀ u s, Ok perm plays m s → unseen s < f → Post perm plays m u s (rec_ u s)) :
    ∀ (ks : List Nat) (s : KS), (∀ k ∈ ks, k < m) → Ok perm plays m s → unseen s < f + 1 →
      ((loopK perm plays rec_ u ks s).1 = true → Grow perm plays m s (loopK perm plays rec_ u ks s).2 ∧ (flat (loopK perm plays rec_ u ks s).2).Perm (u :: flat s)) ∧
      ((loopK perm plays rec_ u ks s).1 = false → Fails perm plays m s (loopK perm plays rec_ u ks s).2 ∧ ∀ k ∈ ks, perm k u = true → (loopK perm plays rec_ u ks s).2.sn k = true)
  | [], s, _, h, _ => ⟨fun h => (by cases h), fun _ => ⟨Fails.refl h, fun k hk => by cases hk⟩⟩
  | k :: ks, s, hks, h, hu => by
    have hkm := hks k (List.mem_cons_self ..)
    have hks' : ∀ k ∈ ks, k < m := fun j hj => hks j (List.mem_cons_of_mem _ hj)
    unfold loopK
    by_cases c1 : (s.sn k || !perm k u) = true
    · rw [if_pos c1]
      obtain ⟨a, b⟩ := loopK_spec hrec ks s hks' h hu
      refine ⟨a, fun hf => ⟨(b hf).1, fun j hj hp => ?_⟩⟩
      rcases List.mem_cons.1 hj with rfl | hj
      · rw [hp] at c1
        exact (b hf).1.mono j (by simpa using c1)
      · exact (b hf).2 j hj hp
    · rw [if_neg c1]
      have hs : s.sn k = false := by cases e : s.sn k <;> simp [e] at c1 ⊢
      have hp : perm k u = true := by cases e : perm k u <;> simp [e] at c1 ⊢
      have hkl : k < s.seen.length := by rw [h.sl]; exact hkm
      have hkg : k < s.given.length := by rw [h.gl]; exact hkm
      have hm := ok_mark h k
      have hum : unseen (s.mark k) < f := by have := unseen_mark hkl hs; omega
      have gm : ∀ s', Grow perm plays m (s.mark k) s' → Grow perm plays m s s' := fun s' g => ⟨g.ok, fun j hj => g.mono j (by rw [sn_mark hkl]; split <;> simp [hj]), fun j hj => by
        rw [g.keep j (by rw [sn_mark hkl]; split <;> simp [hj])]; rfl⟩
      by_cases c2 : (s.row k).length < plays k
      · rw [if_pos c2]
        refine ⟨fun _ => ⟨⟨⟨hm.sl, by simp [KS.push, KS.mark, h.gl], fun j hj o ho => ?_, fun j hj => ?_⟩, fun j hj => ?_, fun j hj => ?_⟩, ?_⟩, fun h => by cases h⟩
        · have e : ((s.mark k).push k u).row j = if j = k then s.row k ++ [u] else s.row j := row_set (s := s.mark k) hkg
          rw [e] at ho
          split at ho
          · rename_i e2; subst e2
            rcases List.mem_append.1 ho with ho | ho
            · exact h.pm _ hj o ho
            · rw [List.mem_singleton.1 ho]; exact hp
          · exact h.pm j hj o ho
        · have e : ((s.mark k).push k u).row j = if j = k then s.row k ++ [u] else s.row j := row_set (s := s.mark k) hkg
          rw [e]; split
          · rename_i e2; subst e2; simp; omega
          · exact h.cp j hj
        · show (s.mark k).sn j = true
          rw [sn_mark hkl]; split <;> simp [hj]
        · have e : ((s.mark k).push k u).row j = if j = k then s.row k ++ [u] else s.row j := row_set (s := s.mark k) hkg
          rw [e, if_neg (fun e2 => by subst e2; rw [hs] at hj; cases hj)]
        · exact flatten_set s.given k _ u hkg (by have : (s.row k ++ [u]).Perm (u :: s.row k) := List.perm_append_singleton _ _; exact this)
      · rw [if_neg c2]
        have hsat : (s.row k).length = plays k := by have := h.cp k hkm; omega
        have hN := loopN_spec hrec (s.row k) 0 (s.mark k) hm hum
        split
        · rename_i n s' he
          rw [he] at hN
          obtain ⟨g, j, o, e1, e2, p⟩ := hN
          have g' := gm s' g
          have hrow : s'.row k = s.row k := by rw [g.keep k (by rw [sn_mark hkl, if_pos rfl])]; rfl
          have hkg' : k < s'.given.length := by rw [g.ok.gl]; exact hkm
          have erow : ∀ i, (s'.put k n u).row i = if i = k then (s'.row k).set n u else s'.row i := fun i => row_set (s := s') hkg'
          refine ⟨fun _ => ⟨⟨⟨g.ok.sl, by simp [KS.put, g.ok.gl], fun i hi x hx => ?_, fun i hi => ?_⟩, fun i hi => g'.mono i hi, fun i hi => ?_⟩, ?_⟩, fun h => by cases h⟩
          · rw [erow] at hx
            split at hx
            · rename_i e3; subst e3
              rcases List.mem_or_eq_of_mem_set hx with hx | rfl
              · exact g.ok.pm _ hi x hx
              · exact hp
            · exact g.ok.pm i hi x hx
          · rw [erow]; split
            · rename_i e3; subst e3; rw [List.length_set]; exact g.ok.cp _ hi
            · exact g.ok.cp i hi
          · rw [erow, if_neg (fun e3 => by subst e3; rw [hs] at hi; cases hi)]
            exact g'.keep i hi
          · have hn : n = j := by omega
            subst hn
            have hsw : (o :: (s'.row k).set n u).Perm (u :: s'.row k) := set_swap _ n o u (by rw [hrow]; exact e2)
            have h1 : (o :: flat (s'.put k n u)).Perm (u :: flat s') := flatten_swap s'.given k _ u o hkg' hsw
            have h2 : (u :: flat s').Perm (u :: o :: flat s) := p.cons u
            have h3 : (o :: flat (s'.put k n u)).Perm (o :: u :: flat s) := (h1.trans h2).trans (List.Perm.swap _ _ _)
            exact h3.cons_inv
        · rename_i s' he
          rw [he] at hN
          obtain ⟨g, q⟩ := hN
          have g1 := gm s' g.toGrow
          have hF : Fails perm plays m s s' := ⟨g1, g.same, fun i hi h1 h2 => by
            by_cases e : i = k
            · subst e
              exact ⟨hsat, fun o ho j hj hpj => q o ho j hj hpj⟩
            · have h3 : (s.mark k).sn i = false := by rw [sn_mark hkl, if_neg e]; exact h2
              exact g.cl i hi h1 h3⟩
          have hu' : unseen s' < f + 1 := Nat.lt_of_le_of_lt (unseen_mono (by rw [g1.ok.sl, h.sl]) g1.mono) hu
          obtain ⟨a, b⟩ := loopK_spec hrec ks s' hks' g.ok hu'
          have hfl : flat s' = flat s := by unfold flat; rw [g.same]; rfl
          rw [hfl] at a
          refine ⟨fun ht => ⟨g1.trans (a ht).1, (a ht).2⟩, fun hf => ⟨hF.trans (b hf).1, fun j hj hpj => ?_⟩⟩
          rcases List.mem_cons.1 hj with rfl | hj
          · exact (b hf).1.mono j (g.mono j (by rw [sn_mark hkl, if_pos rfl]))
          · exact (b hf).2 j hj hpj
theorem give_spec : ∀ (f u : Nat) (s : KS), Ok perm plays m s → unseen s < f → Post perm plays m u s (give perm plays m f u s)
  | 0, u, s, h, hu => by omega
  | f + 1, u, s, h, hu => by
    have := loopK_spec (u := u) (fun u s h hu => give_spec f u s h hu) (List.range m) s (fun k hk => List.mem_range.1 hk) h hu
    exact ⟨this.1, fun hf => ⟨(this.2 hf).1, fun k hk => (this.2 hf).2 k (List.mem_range.2 hk)⟩⟩

/-! ### All uses: an assignment, or a set that lacks plays -/
def kuhn (perm : Nat → Nat → Bool) (plays : Nat → Nat) (m : Nat) : Nat → Option (List (List Nat))
  | 0 => some (List.replicate m [])
  | i + 1 => match kuhn perm plays m i with
    | none => none
    | some g => if (give perm plays m (m + 1) i ⟨List.replicate m false, g⟩).1 then some (give perm plays m (m + 1) i ⟨List.replicate m false, g⟩).2.given else none
/-- The plays of the grants that permit one of X. -/
def need (perm : Nat → Nat → Bool) (plays : Nat → Nat) (m : Nat) (X : List Nat) : Nat := (((List.range m).filter fun k => X.any (perm k)).map plays).sum
/-- Who may have what is assigned. -/
structure Asg (perm : Nat → Nat → Bool) (plays : Nat → Nat) (m n : Nat) (g : List (List Nat)) : Prop where
  gl : g.length = m
  pm : ∀ k, k < m → ∀ o ∈ g.getD k [], perm k o = true
  cp : ∀ k, k < m → (g.getD k []).length ≤ plays k
  all : g.flatten.Perm (List.range n)
structure Lacks (perm : Nat → Nat → Bool) (plays : Nat → Nat) (m n : Nat) (X : List Nat) : Prop where
  nd : X.Nodup
  lt : ∀ x ∈ X, x < n
  few : need perm plays m X < X.length

theorem nodup_le {X Y : List Nat} (hx : X.Nodup) (hs : ∀ x ∈ X, x ∈ Y) : X.length ≤ Y.length := by
  induction X generalizing Y with
  | nil => simp
  | cons a X ih =>
    rw [List.nodup_cons] at hx
    have ha : a ∈ Y := hs a (List.mem_cons_self ..)
    have h1 := ih (Y := Y.erase a) hx.2 (fun x hx' => by
      have hne : x ≠ a := fun e => hx.1 (e ▸ hx')
      exact (List.mem_erase_of_ne hne).2 (hs x (List.mem_cons_of_mem _ hx')))
    rw [List.length_erase_of_mem ha] at h1
    have : 0 < Y.length := List.length_pos_of_mem ha
    simp only [List.length_cons]; omega
theorem sum_le_filter {f : Nat → Nat} {p q : Nat → Bool} : ∀ (l : List Nat), (∀ k ∈ l, p k = true → q k = true) → ((l.filter p).map f).sum ≤ ((l.filter q).map f).sum
  | [], _ => by simp
  | a :: l, h => by
    have ih := sum_le_filter (f := f) l fun k hk => h k (List.mem_cons_of_mem _ hk)
    have ha := h a (List.mem_cons_self ..)
    simp only [List.filter_cons]
    cases hp : p a <;> cases hq : q a <;> simp [hp, hq] at ha ⊢ <;> omega
theorem flatMap_len_le {f : Nat → List Nat} {c : Nat → Nat} : ∀ (l : List Nat), (∀ k ∈ l, (f k).length ≤ c k) → (l.flatMap f).length ≤ (l.map c).sum
  | [], _ => by simp
  | a :: l, h => by
    have ih := flatMap_len_le (f := f) (c := c) l fun k hk => h k (List.mem_cons_of_mem _ hk)
    have := h a (List.mem_cons_self ..)
    simp only [List.flatMap_cons, List.length_append, List.map_cons, List.sum_cons]; omega
theorem flatMap_len_ge {f : Nat → List Nat} {c : Nat → Nat} : ∀ (l : List Nat), (∀ k ∈ l, c k ≤ (f k).length) → (l.map c).sum ≤ (l.flatMap f).length
  | [], _ => by simp
  | a :: l, h => by
    have ih := flatMap_len_ge (f := f) (c := c) l fun k hk => h k (List.mem_cons_of_mem _ hk)
    have := h a (List.mem_cons_self ..)
    simp only [List.flatMap_cons, List.length_append, List.map_cons, List.sum_cons]; omega
theorem flatten_range (g : List (List Nat)) : g.flatten = (List.range g.length).flatMap fun k => g.getD k [] := by
  have : g = (List.range g.length).map fun k => g.getD k [] := by
    apply List.ext_getElem?
    intro i
    by_cases h : i < g.length
    · simp [h, List.getD]
    · simp [h]
  conv => lhs; rw [this]
  rw [List.flatMap_def]
theorem mem_flatten_row {g : List (List Nat)} {x : Nat} (h : x ∈ g.flatten) : ∃ k, k < g.length ∧ x ∈ g.getD k [] := by
  rw [flatten_range] at h
  obtain ⟨k, hk, hx⟩ := List.mem_flatMap.1 h
  exact ⟨k, List.mem_range.1 hk, hx⟩

theorem asg_no_lack {n : Nat} {g : List (List Nat)} (h : Asg perm plays m n g) (X : List Nat) : ¬ Lacks perm plays m n X := by
  rintro ⟨nd, lt, few⟩
  have hsub : ∀ x ∈ X, x ∈ ((List.range m).filter fun k => X.any (perm k)).flatMap fun k => g.getD k [] := fun x hx => by
    have hf : x ∈ g.flatten := h.all.mem_iff.2 (List.mem_range.2 (lt x hx))
    obtain ⟨k, hk, hxk⟩ := mem_flatten_row hf
    rw [h.gl] at hk
    refine List.mem_flatMap.2 ⟨k, List.mem_filter.2 ⟨List.mem_range.2 hk, ?_⟩, hxk⟩
    exact List.any_eq_true.2 ⟨x, hx, h.pm k hk x hxk⟩
  have h1 := nodup_le nd hsub
  have h2 := flatMap_len_le (f := fun k => g.getD k []) (c := plays) ((List.range m).filter fun k => X.any (perm k)) fun k hk => h.cp k (List.mem_range.1 (List.mem_filter.1 hk).1)
  unfold need at few
  omega

theorem kuhn_spec : ∀ (n : Nat), match kuhn perm plays m n with
    | some g => Asg perm plays m n g
    | none => ∃ X, Lacks perm plays m n X
  | 0 => ⟨by simp, fun k hk o ho => by simp [List.getD, hk] at ho, fun k hk => by simp [List.getD, hk], by simp⟩
  | n + 1 => by
    have ih := kuhn_spec n
    unfold kuhn
    split at ih
    · rename_i g he
      rw [he]
      simp only
      have hOk : Ok perm plays m ⟨List.replicate m false, g⟩ := ⟨by simp, ih.gl, ih.pm, ih.cp⟩
      have hun : unseen ⟨List.replicate m false, g⟩ < m + 1 := by unfold unseen; exact Nat.lt_succ_of_le (Nat.le_trans List.countP_le_length (by simp))
      obtain ⟨ht, hf⟩ := give_spec (m + 1) n ⟨List.replicate m false, g⟩ hOk hun
      cases hr : (give perm plays m (m + 1) n ⟨List.replicate m false, g⟩).1 with
      | true =>
        simp only [if_true]
        obtain ⟨gr, p⟩ := ht hr
        refine ⟨gr.ok.gl, gr.ok.pm, gr.ok.cp, ?_⟩
        have p2 : (n :: g.flatten).Perm (n :: List.range n) := ih.all.cons n
        have p3 : (n :: List.range n).Perm (List.range (n + 1)) := by rw [List.range_succ]; exact (List.perm_append_singleton _ _).symm
        exact (p.trans p2).trans p3
      | false =>
        simp only [Bool.false_eq_true, if_false]
        obtain ⟨fl, cl⟩ := hf hr
        generalize (give perm plays m (m + 1) n ⟨List.replicate m false, g⟩).2 = s' at *
        have h0 : ∀ k, (⟨List.replicate m false, g⟩ : KS).sn k = false := fun k => by
          unfold KS.sn; simp only [List.getD]
          by_cases hk : k < m <;> simp [hk]
        have hrow : ∀ k, (⟨List.replicate m false, g⟩ : KS).row k = g.getD k [] := fun k => rfl
        obtain ⟨R, hR⟩ : ∃ R, R = (List.range m).filter s'.sn := ⟨_, rfl⟩
        have hRm : ∀ k ∈ R, k < m ∧ s'.sn k = true := fun k hk => by rw [hR] at hk; exact ⟨List.mem_range.1 (List.mem_filter.1 hk).1, (List.mem_filter.1 hk).2⟩
        have hsubl : (R.flatMap fun k => g.getD k []).Sublist g.flatten := by
          rw [flatten_range g, ih.gl, hR]
          have : ∀ (l : List Nat), ((l.filter s'.sn).flatMap fun k => g.getD k []).Sublist (l.flatMap fun k => g.getD k []) := by
            intro l
            induction l with
            | nil => exact List.Sublist.refl _
            | cons a l ihl =>
              simp only [List.filter_cons]
              split
              · simp only [List.flatMap_cons]; exact ihl.append_left _
              · simp only [List.flatMap_cons]; exact ihl.trans (List.sublist_append_right _ _)
          exact this _
        have hnd : g.flatten.Nodup := (ih.all.nodup_iff).2 List.nodup_range
        have hlt : ∀ x ∈ R.flatMap fun k => g.getD k [], x < n := fun x hx => List.mem_range.1 (ih.all.mem_iff.1 (hsubl.subset hx))
        refine ⟨n :: R.flatMap fun k => g.getD k [], ⟨List.nodup_cons.2 ⟨fun hx => Nat.lt_irrefl _ (hlt n hx), hnd.sublist hsubl⟩, fun x hx => ?_, ?_⟩⟩
        · rcases List.mem_cons.1 hx with rfl | hx
          · omega
          · have := hlt x hx; omega
        · have h1 : need perm plays m (n :: R.flatMap fun k => g.getD k []) ≤ (R.map plays).sum := by
            unfold need
            rw [hR]
            refine sum_le_filter _ fun k hk hany => ?_
            have hkm := List.mem_range.1 hk
            obtain ⟨x, hx, hp⟩ := List.any_eq_true.1 hany
            rcases List.mem_cons.1 hx with rfl | hx
            · exact cl k hkm hp
            · rw [← hR] at hx
              obtain ⟨j, hj, hxj⟩ := List.mem_flatMap.1 hx
              have hjm := hRm j hj
              exact (fl.cl j hjm.1 hjm.2 (h0 j)).2 x hxj k hkm hp
          have h2 := flatMap_len_ge (f := fun k => g.getD k []) (c := plays) R fun k hk => by
            have hkm := hRm k hk
            have := (fl.cl k hkm.1 hkm.2 (h0 k)).1
            rw [hrow] at this; omega
          simp only [List.length_cons]; omega
    · rename_i he
      rw [he]
      obtain ⟨X, hX⟩ := ih
      exact ⟨X, hX.nd, fun x hx => by have := hX.lt x hx; omega, hX.few⟩
/-- Hall: an assignment is there exactly if no set lacks plays. -/
theorem kuhn_iff (n : Nat) : (kuhn perm plays m n).isSome = true ↔ ∀ X, ¬ Lacks perm plays m n X := by
  have h := kuhn_spec (perm := perm) (plays := plays) (m := m) n
  cases e : kuhn perm plays m n with
  | none => rw [e] at h; obtain ⟨X, hX⟩ := h; simp; exact ⟨X, hX⟩
  | some g => rw [e] at h; simp; exact asg_no_lack h
end
end Go.Proofs.Ytfdjnadopniaeaa.Kuhn
