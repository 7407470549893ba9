/- Merged texts: GxDel, GxQue, GxSort, GxExact, GxJ4. -/
import Derived.Test.YtgdmaadikcnagaaDoorMG1
import Derived.ArgAppend
import Derived.Shelf.SlSortCmp.WholeK
import Derived.Sort.Grow
import Derived.Deep.Draws
/-
  Maps of the call's own that are told by what they hold for each key: written, read, deleted from, counted.
-/
namespace Go.Gx
open Go Go.RowKit
set_option linter.unusedVariables false
set_option linter.unusedSimpArgs false
set_option linter.unusedSectionVars false

/-- Entries with their births. -/
def dEs {K V : Type} (eK : K → Value) (eV : V → Value) (l : List (K × V × Nat)) : List MapEntry := l.map fun x => { key := eK x.1, val := eV x.2.1, born := x.2.2 }
def dFind {K V : Type} [DecidableEq K] (k : K) : List (K × V × Nat) → Nat → Option (Nat × V)
  | [], _ => none
  | x :: r, i => if k = x.1 then some (i, x.2.1) else dFind k r (i + 1)
def dGet {K V : Type} [DecidableEq K] (k : K) : List (K × V × Nat) → Option V
  | [] => none
  | x :: r => if k = x.1 then some x.2.1 else dGet k r
/-- Keys of a map, by what they are told as. -/
class DKey (P : Program) (T : TypeId) {K : Type} [DecidableEq K] (eK : K → Value) : Prop where
  find : ∀ {V : Type} (eV : V → Value) (k : K) (l : List (K × V × Nat)) (w : World), (Instr.findKey T (eK k) (dEs eK eV l)).run P w = .ok ((dFind k l 0).map fun p => (p.1, eV p.2)) w
  check : ∀ (e : Bool) (k : K) (w : World), (Instr.checkKey e 10000 T (eK k)).run P w = .ok () w
  same : ∀ k : K, Instr.sameBits 10000 (eK k) (eK k) = true
theorem findNow_intD {V : Type} {q : IntKind} (eV : V → Value) (k : Int) : ∀ (l : List (Int × V × Nat)) (i : Nat), Instr.findNow (.int q) (.int .i64 k) (dEs (fun x => .int .i64 x) eV l) i = some ((dFind k l i).map fun p => (p.1, eV p.2))
  | [], _ => rfl
  | x :: r, i => by
    have ih := findNow_intD (q := q) eV k r (i + 1)
    unfold dEs at ih
    unfold dEs dFind
    rw [List.map_cons, Instr.findNow]
    by_cases h : k = x.1
    · simp [Instr.sameNow, h]
    · have hb : (k == x.1) = false := by simpa using h
      simp [Instr.sameNow, h, hb, ih]
theorem DKey.int {P : Program} {T : TypeId} {q : IntKind} (h : P.underlying T = some (.int q)) : DKey P T (fun x : Int => Value.int .i64 x) where
  find eV k l w := by
    unfold Instr.findKey
    refine (run_bind (run_underlying' h)).trans ?_
    rw [findNow_intD]; rfl
  check e k w := by
    have e1 : (10000 : Nat) = 9999 + 1 := rfl
    rw [e1, Instr.checkKey]
    refine (run_bind (run_underlying' h)).trans ?_
    rfl
  same k := by simp [Instr.sameBits]
/-- A list that tells a map. -/
structure DOk {K V : Type} (l : List (K × V × Nat)) (c : Nat) : Prop where
  nd : (l.map (·.1)).Nodup
  bn : (l.map (·.2.2)).Nodup
  lt : ∀ x ∈ l, x.2.2 < c
/-- A map, by what it holds for each key. -/
def DM {K V : Type} [DecidableEq K] (eK : K → Value) (eV : V → Value) (m : K → Option V) (o : Obj) : Prop :=
  ∃ (l : List (K × V × Nat)) (c : Nat), o = .map (dEs eK eV l).toArray c ∧ DOk l c ∧ ∀ k, dGet k l = m k
abbrev dOb {K V : Type} [DecidableEq K] (eK : K → Value) (eV : V → Value) (b : Nat) (m : K → Option V) : Ob := .pr b (DM eK eV m)
abbrev DMAt {K V : Type} [DecidableEq K] (w : World) (b : Nat) (eK : K → Value) (eV : V → Value) (m : K → Option V) : Prop := ∃ o, w.heap[b]? = some o ∧ DM eK eV m o
/-- A key's value put in place. -/
def mSet {K V : Type} [DecidableEq K] (m : K → Option V) (k : K) (v : V) : K → Option V := fun x => if x = k then some v else m x
def mDel {K V : Type} [DecidableEq K] (m : K → Option V) (k : K) : K → Option V := fun x => if x = k then none else m x
section
variable {K V : Type} [DecidableEq K] {eK : K → Value} {eV : V → Value}
theorem dFind_get (k : K) : ∀ (l : List (K × V × Nat)) (i : Nat), (dFind k l i).map (·.2) = dGet k l
  | [], _ => rfl
  | x :: r, i => by
    unfold dFind dGet; split
    · rfl
    · exact dFind_get k r (i + 1)
theorem dFind_none {k : K} {l : List (K × V × Nat)} {i : Nat} (h : dFind k l i = none) : ∀ x ∈ l, x.1 ≠ k := by
  induction l generalizing i with
  | nil => intro x hx; cases hx
  | cons a r ih =>
    unfold dFind at h; split at h
    · cases h
    · rename_i hne
      intro x hx
      rcases List.mem_cons.1 hx with rfl | hx
      · exact fun e => hne e.symm
      · exact ih h x hx
theorem dFind_some {k : K} {l : List (K × V × Nat)} {i j : Nat} {v : V} (h : dFind k l i = some (j, v)) : i ≤ j ∧ ∃ s, l[j - i]? = some (k, v, s) := by
  induction l generalizing i with
  | nil => cases h
  | cons a r ih =>
    unfold dFind at h; split at h
    · rename_i e
      cases h; subst e
      exact ⟨Nat.le_refl _, a.2.2, by simp⟩
    · obtain ⟨h1, s, h2⟩ := ih h
      refine ⟨by omega, s, ?_⟩
      rw [show j - i = (j - (i + 1)) + 1 by omega, List.getElem?_cons_succ]; exact h2
theorem dGet_none {k : K} {l : List (K × V × Nat)} : dGet k l = none ↔ ∀ x ∈ l, x.1 ≠ k := by
  induction l with
  | nil => simp [dGet]
  | cons a r ih =>
    unfold dGet; split
    · rename_i e
      simp only [reduceCtorEq, false_iff]
      exact fun h => h a (List.mem_cons_self ..) e.symm
    · rename_i e
      rw [ih]
      exact ⟨fun h x hx => by
        rcases List.mem_cons.1 hx with rfl | hx
        · exact fun e' => e e'.symm
        · exact h x hx, fun h x hx => h x (List.mem_cons_of_mem _ hx)⟩
theorem dGet_append {k : K} {l r : List (K × V × Nat)} : dGet k (l ++ r) = match dGet k l with
    | some v => some v
    | none => dGet k r := by
  induction l with
  | nil => rfl
  | cons a l ih =>
    simp only [List.cons_append, dGet]
    split
    · rfl
    · exact ih
/-- Writing at the place of a key. -/
theorem dGet_modify {k : K} {v u : V} {s : Nat} : ∀ {l : List (K × V × Nat)} {j : Nat}, (l.map (·.1)).Nodup → l[j]? = some (k, u, s) → ∀ x, dGet x (l.modify j fun y => (k, v, y.2.2)) = if x = k then some v else dGet x l
  | [], _, _, h, _ => by simp at h
  | a :: r, 0, hn, h, x => by
    simp at h; subst h
    simp only [List.modify_zero_cons, dGet]
    split <;> rfl
  | a :: r, j + 1, hn, h, x => by
    obtain ⟨n1, n2⟩ := List.nodup_cons.1 hn
    simp at h
    have ih := dGet_modify (v := v) n2 h x
    have hk : k ≠ a.1 := fun e => n1 (List.mem_map.2 ⟨_, List.mem_of_getElem? h, e⟩)
    simp only [List.modify_succ_cons, dGet, ih]
    by_cases e : x = a.1
    · rw [if_pos e, if_pos e, if_neg (fun e' => hk (e'.symm.trans e))]
    · rw [if_neg e, if_neg e]
theorem dGet_erase {k : K} {u : V} {s : Nat} : ∀ {l : List (K × V × Nat)} {j : Nat}, (l.map (·.1)).Nodup → l[j]? = some (k, u, s) → ∀ x, dGet x (l.eraseIdx j) = if x = k then none else dGet x l
  | [], _, _, h, _ => by simp at h
  | a :: r, 0, hn, h, x => by
    obtain ⟨n1, n2⟩ := List.nodup_cons.1 hn
    simp at h; subst h
    simp only [List.eraseIdx_cons_zero, dGet]
    split
    · rename_i e; subst e
      exact dGet_none.2 fun y hy e => n1 (List.mem_map.2 ⟨y, hy, e⟩)
    · rfl
  | a :: r, j + 1, hn, h, x => by
    obtain ⟨n1, n2⟩ := List.nodup_cons.1 hn
    simp at h
    have ih := dGet_erase n2 h x
    have hk : k ≠ a.1 := fun e => n1 (List.mem_map.2 ⟨_, List.mem_of_getElem? h, e⟩)
    simp only [List.eraseIdx_cons_succ, dGet, ih]
    by_cases e : x = a.1
    · rw [if_pos e, if_pos e, if_neg (fun e' => hk (e'.symm.trans e))]
    · rw [if_neg e, if_neg e]
theorem map_modify_same {α β : Type} (f : α → β) (g : α → α) : ∀ {l : List α} {j : Nat} {a : α}, l[j]? = some a → f (g a) = f a → (l.modify j g).map f = l.map f
  | [], _, _, h, _ => by simp at h
  | x :: r, 0, a, h, e => by simp at h; subst h; simp [e]
  | x :: r, j + 1, a, h, e => by
    simp at h
    have := map_modify_same f g h e
    simpa using this
theorem dEs_modify (k : K) (v : V) : ∀ (l : List (K × V × Nat)) (j : Nat), dEs eK eV (l.modify j fun y => (k, v, y.2.2)) = (dEs eK eV l).modify j fun e => { e with key := eK k, val := eV v }
  | [], _ => by simp [dEs]
  | a :: r, 0 => rfl
  | a :: r, j + 1 => by
    have := dEs_modify k v r j
    unfold dEs at *
    simp only [List.modify_succ_cons, List.map_cons, this]
theorem dEs_erase : ∀ (l : List (K × V × Nat)) (j : Nat), dEs eK eV (l.eraseIdx j) = (dEs eK eV l).eraseIdx j
  | [], _ => by simp [dEs]
  | a :: r, 0 => rfl
  | a :: r, j + 1 => by
    have := dEs_erase r j
    unfold dEs at *
    simp only [List.eraseIdx_cons_succ, List.map_cons, this]
theorem dEs_length (l : List (K × V × Nat)) : (dEs eK eV l).length = l.length := by simp [dEs]
theorem DOk.modify {l : List (K × V × Nat)} {c j s : Nat} {k : K} {u v : V} (h : DOk l c) (hj : l[j]? = some (k, u, s)) : DOk (l.modify j fun y => (k, v, y.2.2)) c where
  nd := by rw [map_modify_same _ _ hj rfl]; exact h.nd
  bn := by rw [map_modify_same _ _ hj rfl]; exact h.bn
  lt x hx := by
    have h1 : x.2.2 ∈ (l.modify j fun y => (k, v, y.2.2)).map (·.2.2) := List.mem_map_of_mem hx
    rw [map_modify_same _ _ hj rfl] at h1
    obtain ⟨y, hy, e⟩ := List.mem_map.1 h1
    have := h.lt y hy
    omega
theorem DOk.erase {l : List (K × V × Nat)} {c j : Nat} (h : DOk l c) : DOk (l.eraseIdx j) c where
  nd := List.Pairwise.sublist ((List.eraseIdx_sublist l j).map _) h.nd
  bn := List.Pairwise.sublist ((List.eraseIdx_sublist l j).map _) h.bn
  lt x hx := h.lt x ((List.eraseIdx_sublist l j).subset hx)
theorem DOk.push {l : List (K × V × Nat)} {c : Nat} {k : K} {v : V} (h : DOk l c) (hk : ∀ x ∈ l, x.1 ≠ k) : DOk (l ++ [(k, v, c)]) (c + 1) where
  nd := by
    rw [List.map_append]
    refine List.nodup_append.2 ⟨h.nd, by simp, fun a ha b hb => ?_⟩
    obtain ⟨x, hx, rfl⟩ := List.mem_map.1 ha
    simp at hb; subst hb; exact hk x hx
  bn := by
    rw [List.map_append]
    refine List.nodup_append.2 ⟨h.bn, by simp, fun a ha b hb => ?_⟩
    obtain ⟨x, hx, rfl⟩ := List.mem_map.1 ha
    simp at hb; subst hb
    have := h.lt x hx; omega
  lt x hx := by
    rcases List.mem_append.1 hx with hx | hx
    · have := h.lt x hx; omega
    · simp at hx; subst hx; exact Nat.lt_succ_self _
theorem dGet_push {l : List (K × V × Nat)} {c : Nat} {k : K} {v : V} (hk : ∀ x ∈ l, x.1 ≠ k) (x : K) : dGet x (l ++ [(k, v, c)]) = if x = k then some v else dGet x l := by
  rw [dGet_append]
  by_cases e : x = k
  · subst e; rw [dGet_none.2 hk]; simp [dGet]
  · rw [if_neg e]
    have : dGet x [(k, v, c)] = none := by simp [dGet, e]
    rw [this]; cases dGet x l <;> rfl
end
section
variable {P : Program} {ρ : Operand → Value} {w w0 : World} {d : Option Tmp} {ty : TypeId} {pos : String} {af : Array Edge} {g : Option (Nat × Bool)} {T : TypeId} {s t u : Operand} {os : List Ob} {K V : Type} [DecidableEq K] {eK : K → Value} {eV : V → Value}
theorem St.dmAt {i b : Nat} {m : K → Option V} (S : St w0 w os) (hi : os[i]? = some (dOb eK eV b m)) : DMAt w b eK eV m := (S.ok _ (mem_of_get hi)).2
theorem DMAt.mono {b : Nat} {m : K → Option V} {w w' : World} (h : DMAt w b eK eV m) (hb : Below w.heap.size w w') : DMAt w' b eK eV m := by
  obtain ⟨o, h1, h2⟩ := h
  exact ⟨o, by rw [hb.block b (heap_lt h1)]; exact h1, h2⟩
theorem r_makeMapD : ∀ (eK : K → Value) (eV : V → Value) (S : St w0 w os), ∃ v' w', Runs P ρ ⟨d, .makeMap T none, ty, pos, af, g⟩ w (.ok (.value v') w') ∧ ∃ b, v' = .map (some b) ∧ Below w.heap.size w w' ∧ St w0 w' (os ++ [dOb eK eV b (fun _ => none)]) := by
  intro eK eV S
  refine ⟨.map (some w.heap.size), w.alloc (.map #[] 0), ⟨?_⟩, w.heap.size, rfl, below_alloc _ _, S.new (below_alloc _ _) ⟨Nat.le_refl _, _, heap_alloc_new w _, [], 0, rfl, ⟨List.nodup_nil, List.nodup_nil, fun _ h => (by cases h)⟩, fun _ => rfl⟩⟩
  simp only [execOp, Option.map_none, Instr.makeMap]
  rfl
theorem lookupD_run {kT eT : TypeId} {size bytes b : Nat} {z : Value} {m : K → Option V} {k : K} (ok : Bool) [hM : IsMap P T kT eT] [hK : DKey P kT eK] [hI : TI P eT z size bytes] (hh : DMAt w b eK eV m) :
    (Instr.lookup T (.map (some b)) (eK k) ok).run P w = .ok (if ok then .tuple #[((m k).map eV).getD z, .bool (m k).isSome] else ((m k).map eV).getD z) w := by
  obtain ⟨ti, hti, hz, _⟩ := hI.out
  obtain ⟨o, h1, l, c, rfl, hok, hm⟩ := hh
  unfold Instr.lookup
  refine (run_bind (run_underlying' hM.out)).trans ?_
  have hg := getObj_run (P := P) h1
  have hf := hK.find eV k l w
  have hfg := dFind_get k l 0
  have hc := hK.check (dEs eK eV l).isEmpty k w
  have hzr : (zeroValue eT).run P w = .ok z w := run_zeroValue' hti hz
  rw [hm k] at hfg
  cases hd : dFind k l 0 with
  | none =>
    rw [hd] at hf hfg
    have hn : m k = none := by simpa using hfg.symm
    cases ok <;> simp [hg, hf, hc, hzr, hn]
  | some p =>
    rw [hd] at hf hfg
    obtain ⟨p1, p2⟩ := p
    have hn : m k = some p2 := by simpa using hfg.symm
    cases ok <;> simp [hg, hf, hc, hn]
theorem r_lookupD {kT eT : TypeId} {size bytes b : Nat} {z : Value} {m : K → Option V} {k : K} [hM : IsMap P T kT eT] [hK : DKey P kT eK] [hI : TI P eT z size bytes] (hh : DMAt w b eK eV m) (h1 : ρ s = .map (some b)) (h2 : ρ t = eK k) :
    Runs P ρ ⟨d, .lookup T s t true, ty, pos, af, g⟩ w (.ok (.value (.tuple #[((m k).map eV).getD z, .bool (m k).isSome])) w) := ⟨by
  simp only [execOp, h1, h2]
  exact run_bind (lookupD_run true hh)⟩
theorem r_lookup1M {kT eT : TypeId} {size bytes b : Nat} {z : Value} {m : K → Option V} {k : K} (v0 : V) [hM : IsMap P T kT eT] [hK : DKey P kT eK] [hI : TI P eT z size bytes] (hz : eV v0 = z) (hh : DMAt w b eK eV m) (h1 : ρ s = .map (some b)) (h2 : ρ t = eK k) :
    Runs P ρ ⟨d, .lookup T s t false, ty, pos, af, g⟩ w (.ok (.value (eV ((m k).getD v0))) w) := ⟨by
  simp only [execOp, h1, h2]
  have := lookupD_run (P := P) (k := k) (T := T) false hh (hI := hI)
  refine run_bind (this.trans ?_)
  subst hz
  cases m k <;> rfl⟩
theorem r_lookupNM {kT eT : TypeId} {size bytes b : Nat} {z : Value} {m : K → Option V} {k : K} [hM : IsMap P T kT eT] [hK : DKey P kT eK] [hI : TI P eT z size bytes] (hh : DMAt w b eK eV m) (hn : m k = none) (h1 : ρ s = .map (some b)) (h2 : ρ t = eK k) :
    Runs P ρ ⟨d, .lookup T s t true, ty, pos, af, g⟩ w (.ok (.value (.tuple #[z, .bool false])) w) := by
  have := r_lookupD (P := P) (d := d) (ty := ty) (pos := pos) (af := af) (g := g) (T := T) hh h1 h2 (hI := hI)
  rw [hn] at this; exact this
theorem r_lookupSM {kT eT : TypeId} {size bytes b : Nat} {z : Value} {m : K → Option V} {k : K} {v : V} [hM : IsMap P T kT eT] [hK : DKey P kT eK] [hI : TI P eT z size bytes] (hh : DMAt w b eK eV m) (hn : m k = some v) (h1 : ρ s = .map (some b)) (h2 : ρ t = eK k) :
    Runs P ρ ⟨d, .lookup T s t true, ty, pos, af, g⟩ w (.ok (.value (.tuple #[eV v, .bool true])) w) := by
  have := r_lookupD (P := P) (d := d) (ty := ty) (pos := pos) (af := af) (g := g) (T := T) hh h1 h2 (hI := hI)
  rw [hn] at this; exact this
/-- A map of the call's own becomes another one. -/
theorem St.putDM {i b : Nat} {m m' : K → Option V} {es : Array MapEntry} {c : Nat} (S : St w0 w os) (hi : os[i]? = some (dOb eK eV b m)) (h : DM eK eV m' (.map es c)) : St w0 { w with heap := w.heap.setIfInBounds b (.map es c) } (os.set i (dOb eK eV b m')) := by
  have hh := S.ok _ (mem_of_get hi)
  obtain ⟨h1, o, h2, h3⟩ := hh
  have hlt : b < w.heap.size := heap_lt h2
  refine S.write hi ⟨rfl, rfl, rfl, by simp, fun j hj hne => ?_⟩ ⟨h1, _, by simp [hlt], h⟩ (.inl rfl)
  have : b ≠ j := fun e => hne (by rw [e]; rfl)
  simp [Array.getElem?_setIfInBounds, this]
theorem r_mapUpdateD {kT eT : TypeId} {i b : Nat} {m : K → Option V} {k : K} {v : V} [hM : IsMap P T kT eT] [hK : DKey P kT eK] (S : St w0 w os) (hi : os[i]? = some (dOb eK eV b m)) (h1 : ρ s = .map (some b)) (h2 : ρ t = eK k) (h3 : ρ u = eV v) :
    ∃ w', Runs P ρ ⟨d, .mapUpdate T s t u, ty, pos, af, g⟩ w (.ok .skip w') ∧ St w0 w' (os.set i (dOb eK eV b (mSet m k v))) := by
  have hat := S.dmAt hi
  obtain ⟨o, ho, l, c, rfl, hok, hm⟩ := hat
  have hg := getObj_run (P := P) ho
  have hf := hK.find eV k l w
  have hc := hK.check false k w
  have key : ∃ w', (Instr.mapUpdate T (.map (some b)) (eK k) (eV v)).run P w = .ok () w' ∧ St w0 w' (os.set i (dOb eK eV b (mSet m k v))) := by
    cases hd : dFind k l 0 with
    | none =>
      have hn := dFind_none hd
      refine ⟨_, ?_, S.putDM hi (es := (dEs eK eV (l ++ [(k, v, c)])).toArray) (c := c + 1) ⟨_, _, rfl, hok.push hn, fun x => by rw [dGet_push hn, hm x]; rfl⟩⟩
      unfold Instr.mapUpdate
      refine (run_bind (run_underlying' hM.out)).trans ?_
      refine (run_bind hg).trans ?_
      refine (run_bind hc).trans ?_
      have hf' : (Instr.findKey kT (eK k) (dEs eK eV l).toArray.toList).run P w = .ok none w := by rw [hd] at hf; exact hf
      refine (run_bind hf').trans ?_
      have e1 : (dEs eK eV l).toArray.push { key := eK k, val := eV v, born := c } = (dEs eK eV (l ++ [(k, v, c)])).toArray := by simp [dEs]
      show (setObj b (.map ((dEs eK eV l).toArray.push { key := eK k, val := eV v, born := c }) (c + 1))).run P w = _
      rw [e1]
      exact setObj_run _ ho
    | some p =>
      obtain ⟨j, x⟩ := p
      obtain ⟨_, sb, hj⟩ := dFind_some hd
      rw [Nat.sub_zero] at hj
      refine ⟨_, ?_, S.putDM hi (es := (dEs eK eV (l.modify j fun y => (k, v, y.2.2))).toArray) (c := c) ⟨_, _, rfl, hok.modify hj, fun z => by rw [dGet_modify hok.nd hj, hm z]; rfl⟩⟩
      unfold Instr.mapUpdate
      refine (run_bind (run_underlying' hM.out)).trans ?_
      refine (run_bind hg).trans ?_
      refine (run_bind hc).trans ?_
      have hf' : (Instr.findKey kT (eK k) (dEs eK eV l).toArray.toList).run P w = .ok (some (j, eV x)) w := by rw [hd] at hf; exact hf
      refine (run_bind hf').trans ?_
      have hkey : (((dEs eK eV l).toArray[j]?).map (·.key)).getD (eK k) = eK k := by
        rw [List.getElem?_toArray]; unfold dEs; rw [List.getElem?_map, hj]; rfl
      have hst : (Instr.keyThatStays (eK k) (eK k)).run P w = .ok (eK k) w := by
        unfold Instr.keyThatStays; rw [if_pos (hK.same k)]; rfl
      have e1 : ((dEs eK eV l).toArray.modify j fun e => { e with key := eK k, val := eV v }) = (dEs eK eV (l.modify j fun y => (k, v, y.2.2))).toArray := by
        rw [dEs_modify]; simp
      show (do let key ← Instr.keyThatStays ((((dEs eK eV l).toArray[j]?).map (·.key)).getD (eK k)) (eK k); setObj b (.map ((dEs eK eV l).toArray.modify j fun e => { e with key, val := eV v }) c) : Sem Unit).run P w = _
      rw [hkey]
      refine (run_bind hst).trans ?_
      rw [e1]
      exact setObj_run _ ho
  obtain ⟨w', hr, S'⟩ := key
  refine ⟨w', ⟨?_⟩, S'⟩
  simp only [execOp, h1, h2, h3]
  exact run_bind hr
/-- What a key's entry is, told by its stamp: the value that is there is the old one, or a zero. -/
theorem r_mapEntryD {kT eT : TypeId} {size bytes i b : Nat} {z : Value} {m : K → Option V} {k : K} (z0 : V) [hM : IsMap P T kT eT] [hK : DKey P kT eK] [hI : TI P eT z size bytes] (S : St w0 w os) (hi : os[i]? = some (dOb eK eV b m)) (h1 : ρ s = .map (some b)) (h2 : ρ t = eK k) (hz : eV z0 = z) :
    ∃ v' w', Runs P ρ ⟨d, .mapEntry T s t, ty, pos, af, g⟩ w (.ok (.value v') w') ∧ ∃ (y : Value) (j : Int) (l : List (K × V × Nat)) (c : Nat), v' = .tuple #[y, .int .i64 j] ∧ (∃ (q : Nat) (v0 : V), l[q]? = some (k, v0, j.toNat)) ∧ 0 ≤ j ∧ DOk l c ∧ (∀ x, dGet x l = mSet m k ((m k).getD z0) x) ∧ y = eV ((m k).getD z0) ∧ St w0 w' (os.set i (.raw b (.map (dEs eK eV l).toArray c))) := by
  have hat := S.dmAt hi
  obtain ⟨o, ho, l, c, rfl, hok, hm⟩ := hat
  have hg := getObj_run (P := P) ho
  have hf := hK.find eV k l w
  have hc := hK.check false k w
  have hhead := (S.ok _ (mem_of_get hi)).1
  obtain ⟨ti, hti, hzz, _⟩ := hI.out
  have wr : ∀ (l' : List (K × V × Nat)) (c' : Nat), St w0 { w with heap := w.heap.setIfInBounds b (.map (dEs eK eV l').toArray c') } (os.set i (.raw b (.map (dEs eK eV l').toArray c'))) := fun l' c' => by
    have hlt : b < w.heap.size := heap_lt ho
    refine S.write hi ⟨rfl, rfl, rfl, by simp, fun j hj hne => ?_⟩ ⟨hhead, by simp [hlt]⟩ (.inl rfl)
    have : b ≠ j := fun e => hne (by rw [e]; rfl)
    simp [Array.getElem?_setIfInBounds, this]
  have key : ∃ (w' : World) (y : Value) (j : Nat) (l' : List (K × V × Nat)) (c' : Nat), (Instr.mapEntry T (.map (some b)) (eK k)).run P w = .ok (.tuple #[y, .int .i64 ((j : Nat) : Int)]) w' ∧ (∃ (q : Nat) (v0 : V), l'[q]? = some (k, v0, j)) ∧ DOk l' c' ∧ (∀ x, dGet x l' = mSet m k ((m k).getD z0) x) ∧ y = eV ((m k).getD z0) ∧ St w0 w' (os.set i (.raw b (.map (dEs eK eV l').toArray c'))) := by
    cases hd : dFind k l 0 with
    | none =>
      have hn := dFind_none hd
      have hmk : m k = none := by rw [← hm k, dGet_none]; exact hn
      refine ⟨_, z, c, l ++ [(k, z0, c)], c + 1, ?_, ⟨l.length, z0, by simp⟩, hok.push hn, fun x => by rw [dGet_push hn, hm x, hmk]; rfl, by rw [hmk]; exact hz.symm, wr _ _⟩
      unfold Instr.mapEntry
      refine (run_bind (run_underlying' hM.out)).trans ?_
      refine (run_bind hg).trans ?_
      refine (run_bind hc).trans ?_
      have hf' : (Instr.findKey kT (eK k) (dEs eK eV l).toArray.toList).run P w = .ok none w := by rw [hd] at hf; exact hf
      refine (run_bind hf').trans ?_
      have hzr : (zeroValue eT).run P w = .ok z w := run_zeroValue' hti hzz
      refine (run_bind hzr).trans ?_
      have e1 : (dEs eK eV l).toArray.push { key := eK k, val := z, born := c } = (dEs eK eV (l ++ [(k, z0, c)])).toArray := by simp [dEs, hz]
      rw [e1]
      refine (run_bind (setObj_run _ ho)).trans ?_
      rfl
    | some p =>
      obtain ⟨j, x⟩ := p
      obtain ⟨_, sb, hj⟩ := dFind_some hd
      rw [Nat.sub_zero] at hj
      have hmk : m k = some x := by
        have := dFind_get k l 0
        rw [hd, hm k] at this; exact this.symm
      refine ⟨_, eV x, sb, l, c, ?_, ⟨j, x, hj⟩, hok, fun y => by
        rw [hm y, hmk]; unfold mSet; split
        · rename_i e; rw [e, hmk]; rfl
        · rfl, by rw [hmk]; rfl, wr _ _⟩
      unfold Instr.mapEntry
      refine (run_bind (run_underlying' hM.out)).trans ?_
      refine (run_bind hg).trans ?_
      refine (run_bind hc).trans ?_
      have hf' : (Instr.findKey kT (eK k) (dEs eK eV l).toArray.toList).run P w = .ok (some (j, eV x)) w := by rw [hd] at hf; exact hf
      refine (run_bind hf').trans ?_
      have hje : (dEs eK eV l)[j]? = some { key := eK k, val := eV x, born := sb } := by unfold dEs; rw [List.getElem?_map, hj]; rfl
      have hkey : (((dEs eK eV l).toArray[j]?).map (·.key)).getD (eK k) = eK k := by
        rw [List.getElem?_toArray, hje]; rfl
      have hborn : (((dEs eK eV l).toArray[j]?).map (fun x => (x.born : Int))).getD 0 = (sb : Int) := by
        rw [List.getElem?_toArray, hje]; rfl
      have hst : (Instr.keyThatStays (eK k) (eK k)).run P w = .ok (eK k) w := by
        unfold Instr.keyThatStays; rw [if_pos (hK.same k)]; rfl
      have e1 : ((dEs eK eV l).toArray.modify j fun e => { e with key := eK k }) = (dEs eK eV l).toArray := by
        rw [List.modify_toArray, modify_same (fun e => { e with key := eK k }) hje rfl]
      show (do let key ← Instr.keyThatStays ((((dEs eK eV l).toArray[j]?).map (·.key)).getD (eK k)) (eK k); setObj b (.map ((dEs eK eV l).toArray.modify j fun e => { e with key }) c); pure (.tuple #[eV x, goInt ((((dEs eK eV l).toArray[j]?).map (fun x => (x.born : Int))).getD 0)]) : Sem Value).run P w = _
      rw [hkey, hborn]
      refine (run_bind hst).trans ?_
      rw [e1]
      refine (run_bind (setObj_run _ ho)).trans ?_
      rfl
  obtain ⟨w', y, j, l', c', hr, hq, hok', hget, hy, S'⟩ := key
  refine ⟨_, w', ⟨?_⟩, y, (j : Int), l', c', rfl, by simpa using hq, by omega, hok', hget, hy, S'⟩
  simp only [execOp, h1, h2]
  exact run_bind hr
theorem r_entryStoreD {i b c : Nat} {j : Int} {m : K → Option V} {l : List (K × V × Nat)} {k : K} {v v0 v1 : V} {q : Nat} (S : St w0 w os) (hi : os[i]? = some (.raw b (.map (dEs eK eV l).toArray c))) (h1 : ρ s = .map (some b)) (h2 : ρ t = .int .i64 j) (h3 : ρ u = eV v) (hq : l[q]? = some (k, v0, j.toNat)) (hj : 0 ≤ j) (hok : DOk l c) (hm : ∀ x, dGet x l = mSet m k v1 x) :
    ∃ w', Runs P ρ ⟨d, .entryStore T s t u, ty, pos, af, g⟩ w (.ok .skip w') ∧ St w0 w' (os.set i (dOb eK eV b (mSet m k v))) := by
  have hh := S.ok _ (mem_of_get hi)
  have hg := getObj_run (P := P) hh.2
  have hlt : b < w.heap.size := heap_lt hh.2
  have hql : q < l.length := (List.getElem?_eq_some_iff.1 hq).1
  have wr : DM eK eV (mSet m k v) (.map (dEs eK eV (l.modify q fun y => (k, v, y.2.2))).toArray c) := ⟨_, _, rfl, hok.modify hq, fun x => by
    rw [dGet_modify hok.nd hq, hm x]; unfold mSet; split <;> rfl⟩
  have hidx : (dEs eK eV l).toArray.findIdx? (fun e => (e.born : Int) == j) = some q := by
    rw [List.findIdx?_toArray, List.findIdx?_eq_some_iff_getElem]
    have hb : ∀ (p : Nat) (h : p < (dEs eK eV l).length), ((dEs eK eV l)[p]).born = (l[p]'(by rw [dEs_length] at h; exact h)).2.2 := fun p h => by simp [dEs]
    refine ⟨by rw [dEs_length]; exact hql, ?_, fun p hp => ?_⟩
    · rw [hb]
      have : l[q] = (k, v0, j.toNat) := (List.getElem?_eq_some_iff.1 hq).2
      rw [this]; simp; omega
    · rw [hb]
      have hpl : p < l.length := by omega
      have hne := (List.pairwise_iff_getElem.1 hok.bn) p q (by simpa using hpl) (by simpa using hql) hp
      have e2 : l[q] = (k, v0, j.toNat) := (List.getElem?_eq_some_iff.1 hq).2
      simp only [List.getElem_map, e2] at hne
      simp; omega
  have e1 : ((dEs eK eV l).toArray.modify q fun e => { e with val := eV v }) = (dEs eK eV (l.modify q fun y => (k, v, y.2.2))).toArray := by
    rw [dEs_modify, List.modify_toArray]
    congr 1
    have hje : (dEs eK eV l)[q]? = some { key := eK k, val := eV v0, born := j.toNat } := by unfold dEs; rw [List.getElem?_map, hq]; rfl
    exact modify_congr hje rfl
  have hw : St w0 { w with heap := w.heap.setIfInBounds b (.map (dEs eK eV (l.modify q fun y => (k, v, y.2.2))).toArray c) } (os.set i (dOb eK eV b (mSet m k v))) := by
    refine S.write hi ⟨rfl, rfl, rfl, by simp, fun j hj hne => ?_⟩ ⟨hh.1, _, by simp [hlt], wr⟩ (.inl rfl)
    have : b ≠ j := fun e => hne (by rw [e]; rfl)
    simp [Array.getElem?_setIfInBounds, this]
  refine ⟨_, ⟨?_⟩, hw⟩
  simp only [execOp, h1, h2, h3]
  refine run_bind (a := ()) ?_
  unfold Instr.entryStore
  refine (run_bind hg).trans ?_
  have ha : (asInt (.int .i64 j) : Sem Int).run P w = .ok j w := rfl
  refine (run_bind ha).trans ?_
  rw [hidx, ← e1]
  exact setObj_run _ hh.2
theorem r_deleteD {kT eT : TypeId} {i b : Nat} {m : K → Option V} {k : K} [hM : IsMap P T kT eT] [hK : DKey P kT eK] (S : St w0 w os) (hi : os[i]? = some (dOb eK eV b m)) (h1 : ρ s = .map (some b)) (h2 : ρ t = eK k) :
    ∃ v' w', Runs P ρ ⟨d, .call { callee := .builtin .delete, args := #[s, t], argTypes := #[T, kT] }, ty, pos, af, g⟩ w (.ok (.value v') w') ∧ St w0 w' (os.set i (dOb eK eV b (mDel m k))) := by
  have hat := S.dmAt hi
  obtain ⟨o, ho, l, c, rfl, hok, hm⟩ := hat
  have hg := getObj_run (P := P) ho
  have hf := hK.find eV k l w
  have hc := hK.check (dEs eK eV l).isEmpty k w
  have key : ∃ w', (Builtin.delete_ #[T, kT] ty #[.map (some b), eK k]).run P w = .ok (.tuple #[]) w' ∧ St w0 w' (os.set i (dOb eK eV b (mDel m k))) := by
    cases hd : dFind k l 0 with
    | none =>
      have hn := dFind_none hd
      have hmk : m k = none := by rw [← hm k, dGet_none]; exact hn
      refine ⟨_, ?_, S.putDM hi (es := (dEs eK eV l).toArray) (c := c) ⟨_, _, rfl, hok, fun x => by
        rw [hm x]; unfold mDel; split
        · rename_i e; rw [e, hmk]
        · rfl⟩⟩
      have hf' : (Instr.findKey kT (eK k) (dEs eK eV l).toArray.toList).run P w = .ok none w := by rw [hd] at hf; exact hf
      have hc' : (Instr.checkKey (dEs eK eV l).toArray.isEmpty 10000 kT (eK k)).run P w = .ok () w := hK.check _ k w
      unfold Builtin.delete_
      refine (run_bind (run_underlying' hM.out)).trans ?_
      have hs := setObj_run (P := P) (.map (dEs eK eV l).toArray c) ho
      simp at hc' hf'
      simp [hg, hc', hf', hs]
    | some p =>
      obtain ⟨j, x⟩ := p
      obtain ⟨_, sb, hj⟩ := dFind_some hd
      rw [Nat.sub_zero] at hj
      refine ⟨_, ?_, S.putDM hi (es := (dEs eK eV (l.eraseIdx j)).toArray) (c := c) ⟨_, _, rfl, hok.erase, fun z => by rw [dGet_erase hok.nd hj, hm z]; rfl⟩⟩
      have hf' : (Instr.findKey kT (eK k) (dEs eK eV l).toArray.toList).run P w = .ok (some (j, eV x)) w := by rw [hd] at hf; exact hf
      have hc' : (Instr.checkKey (dEs eK eV l).toArray.isEmpty 10000 kT (eK k)).run P w = .ok () w := hK.check _ k w
      unfold Builtin.delete_
      refine (run_bind (run_underlying' hM.out)).trans ?_
      have hs := setObj_run (P := P) (.map ((dEs eK eV l).eraseIdx j).toArray c) ho
      rw [dEs_erase]
      simp at hc' hf'
      simp [hg, hc', hf', hs]
  obtain ⟨w', hr, S'⟩ := key
  refine ⟨.tuple #[], w', ⟨?_⟩, S'⟩
  simp [execOp, resolve, invoke, builtin, h1, h2, hr]
/-- Whether a map is empty. -/
theorem r_lenD {kT eT : TypeId} {i b : Nat} {m : K → Option V} [hM : IsMap P T kT eT] (hh : DMAt w b eK eV m) (h1 : ρ s = .map (some b)) :
    ∃ n : Int, Runs P ρ ⟨d, .call { callee := .builtin .len, args := #[s], argTypes := #[T] }, ty, pos, af, g⟩ w (.ok (.value (.int .i64 n)) w) ∧ 0 ≤ n ∧ (n = 0 ↔ ∀ k, m k = none) := by
  obtain ⟨o, ho, l, c, rfl, hok, hm⟩ := hh
  refine ⟨l.length, ?_, by omega, ?_⟩
  · have hg := getObj_run (P := P) ho
    have hu := run_underlying' (P := P) (w := w) hM.out
    exact ⟨by simp [execOp, resolve, invoke, builtin, Builtin.len_, h1, hu, hg, goInt, dEs_length]⟩
  · constructor
    · intro e k
      have : l = [] := List.length_eq_zero_iff.1 (by omega)
      subst this
      rw [← hm k]; rfl
    · intro h
      cases l with
      | nil => rfl
      | cons x r =>
        have := hm x.1
        rw [h x.1] at this
        simp [dGet] at this
end
end Go.Gx
/-
  Queues: slices into a block of the call's own, at any offset; append goes on behind them.
-/
namespace Go.Gx
open Go Go.RowKit
set_option linter.unusedVariables false
set_option linter.unusedSimpArgs false

/-- Object o holds the cells of the queue l, whose header is v. -/
def Qu {α : Type} (D : Flat α) (T : TypeId) (o : Ob) (v : Value) (l : List α) : Prop :=
  (v = .slice none 0 0 ∧ l = [] ∧ o = .row (.slice none 0 0) T D.sz 0 []) ∨
  ∃ g off cap cur, v = .slice (some ⟨g, off, none⟩) l.length cap ∧ o = .var g T cur ∧ cap ≤ maxLen ∧ l.length ≤ cap ∧ off + cap * D.sz ≤ cur.length ∧ (cur.drop off).take (l.length * D.sz) = fl D l

theorem fl_getQ {α : Type} {D : Flat α} : ∀ {l : List α} {j : Nat} {x : α}, l[j]? = some x → ∀ {i : Nat} {u : Value}, (D.enc x)[i]? = some u → (fl D l)[j * D.sz + i]? = some u := by
  intro l
  induction l with
  | nil => intro j x hj; simp at hj
  | cons y r ih =>
    intro j x hj i u hu
    unfold fl
    rw [List.flatMap_cons]
    cases j with
    | zero =>
      simp at hj; subst hj
      rw [Nat.zero_mul, Nat.zero_add, List.getElem?_append_left (by rcases Nat.lt_or_ge i (D.enc y).length with h | h; exact h; rw [List.getElem?_eq_none h] at hu; cases hu)]; exact hu
    | succ j =>
      rw [List.getElem?_append_right (by rw [D.len, Nat.add_mul]; omega), D.len, show (j + 1) * D.sz + i - D.sz = j * D.sz + i by rw [Nat.add_mul]; omega]
      exact ih (by simpa using hj) hu

theorem Qu.nil {α : Type} (D : Flat α) (T : TypeId) : Qu D T (.row (.slice none 0 0) T D.sz 0 []) (.slice none 0 0) ([] : List α) := .inl ⟨rfl, rfl, rfl⟩
theorem Qu.len {α : Type} {D : Flat α} {T : TypeId} {o : Ob} {v : Value} {l : List α} (h : Qu D T o v l) : ∃ A c, v = .slice A l.length c := by
  rcases h with ⟨rfl, rfl, _⟩ | ⟨g, off, cap, cur, h, _⟩
  · exact ⟨_, _, rfl⟩
  · exact ⟨_, _, h⟩
theorem cur_get {cur : List Value} {off n : Nat} {xs : List Value} (h : (cur.drop off).take n = xs) {j : Nat} {u : Value} (hj : xs[j]? = some u) : cur[off + j]? = some u := by
  rw [← h, List.getElem?_take] at hj
  split at hj
  · rw [List.getElem?_drop] at hj; exact hj
  · cases hj
theorem Qu.cells {α : Type} {D : Flat α} {T : TypeId} {w0 w : World} {os : List Ob} {i : Nat} {g off cap : Nat} {cur : List Value} {l : List α} (S : St w0 w os) (hi : os[i]? = some (.var g T cur)) (h : (cur.drop off).take (l.length * D.sz) = fl D l) :
    ∀ j u, (fl D l)[j]? = some u → w.cell? ((⟨g, off, none⟩ : Addr).add j) = some u := fun j u hj => by
  have := (S.var hi).2.2 (off + j) u (cur_get h hj)
  rw [add_lit, Nat.zero_add] at this
  rw [add_lit]; exact this
theorem Qu.rd {α : Type} {D : Flat α} {T : TypeId} {o : Ob} {v : Value} {l : List α} (h : Qu D T o v l) {w0 w : World} {os : List Ob} {i : Nat} (S : St w0 w os) (hi : os[i]? = some o) : Rd D.ty w v l := by
  rcases h with ⟨rfl, rfl, _⟩ | ⟨g, off, cap, cur, rfl, rfl, hm, hc, hf, ht⟩
  · exact Rd.nil _ _
  · refine ⟨_, _, rfl, hc, .inr ⟨_, rfl, rfl, (S.var hi).1, fun j x hj => ⟨_, rfl, fun k u hu => Qu.cells (cap := cap) S hi ht _ u (fl_getQ hj hu)⟩⟩⟩

theorem take_splice {l vs : List Value} {o m : Nat} (h : o + vs.length ≤ m) (h2 : o + vs.length ≤ l.length) : (splice l o vs).take m = splice (l.take m) o vs := by
  apply List.ext_getElem?
  intro j
  simp only [splice, List.getElem?_take, List.getElem?_append, List.length_append, List.length_take, List.getElem?_drop]
  repeat' split
  all_goals first | rfl | omega | (congr 1; omega) | skip
theorem drop_splice {l vs : List Value} {o off : Nat} (h2 : off + o + vs.length ≤ l.length) : (splice l (off + o) vs).drop off = splice (l.drop off) o vs := by
  apply List.ext_getElem?
  intro j
  simp only [splice, List.getElem?_take, List.getElem?_append, List.length_append, List.length_take, List.getElem?_drop, List.length_drop]
  repeat' split
  all_goals first | rfl | omega | (congr 1; omega) | skip
theorem splice_length {l vs : List Value} {o : Nat} (h : o + vs.length ≤ l.length) : (splice l o vs).length = l.length := by
  simp [splice]; omega
section
variable {P : Program} {ρ : Operand → Value} {w w0 : World} {d : Option Tmp} {ty : TypeId} {pos : String} {af : Array Edge} {g : Option (Nat × Bool)} {T T' : TypeId} {s t : Operand} {os : List Ob}
/-- A field of the first element is set. -/
theorem r_storeQ {α : Type} {D : Flat α} {i off sz : Nat} {o : Ob} {l : List α} {x x' : α} {v u : Value} {ag : Bool} [hS : TF P T ag sz] (S : St w0 w os) (hi : os[i]? = some o) (hq : Qu D T' o v (x :: l)) (h1 : ρ s = .pointer (some ((elemAddr v D.sz 0).add off))) (h2 : ρ t = u)
    (hz : u.cells.size = sz) (hu : D.enc x' = splice (D.enc x) off u.cells.toList) (hf : off + sz ≤ D.sz) (h1c : ∀ c ∈ u.cells.toList, c.oneCell' = true) :
    ∃ w', Runs P ρ ⟨d, .store T s t, ty, pos, af, g⟩ w (.ok .skip w') ∧ ∃ o', St w0 w' (os.set i o') ∧ Qu D T' o' v (x' :: l) := by
  rcases hq with ⟨_, h, _⟩ | ⟨gb, ofs, cap, cur, rfl, rfl, hm, hc, hfit, ht⟩
  · cases h
  · have ha : (elemAddr (.slice (some ⟨gb, ofs, none⟩) (x :: l).length cap) D.sz 0).add off = ⟨gb, ofs + off, none⟩ := by
      show ((⟨gb, ofs, none⟩ : Addr).add _).add _ = _
      rw [add_add, add_lit, Nat.zero_mul, Nat.zero_add]
    rw [ha] at h1
    have hsz : D.sz ≤ (x :: l).length * D.sz := by rw [List.length_cons, Nat.add_mul]; omega
    have hcs : (x :: l).length * D.sz ≤ cap * D.sz := Nat.mul_le_mul_right _ hc
    have hul : u.cells.toList.length = sz := by rw [Array.length_toList, hz]
    obtain ⟨w', hr, S'⟩ := r_storeVar (P := P) (ρ := ρ) (d := d) (ty := ty) (pos := pos) (af := af) (g := g) (T := T) (s := s) (t := t) S hi h1 h2 hz (by omega) h1c
    refine ⟨w', hr, _, S', .inr ⟨gb, ofs, cap, _, rfl, rfl, hm, hc, ?_, ?_⟩⟩
    · rw [splice_length (by omega)]; exact hfit
    · rw [drop_splice (by omega), take_splice (by rw [hul, List.length_cons] at *; omega) (by rw [List.length_drop]; omega)]
      have hlen : (x' :: l).length = (x :: l).length := rfl
      rw [hlen, ht]
      have := fl_setF D x' off u.cells.toList (by rw [hul]; exact hf) (x :: l) 0 x rfl hu
      simpa using this
/-- The first element leaves. -/
theorem r_sliceQ {α : Type} {D : Flat α} {o : Ob} {l : List α} {x : α} {v : Value} {e : TypeId} {ag : Bool} {a : Operand} [hT : IsSlice P T e] [hS : TF P e ag D.sz] (hq : Qu D T' o v (x :: l)) (S : St w0 w os) {i : Nat} (hi : os[i]? = some o) (h1 : ρ s = v) (h2 : ρ a = .int .i64 1) :
    ∃ v' w', Runs P ρ ⟨d, .slice T s (some a) none none, ty, pos, af, g⟩ w (.ok (.value v') w') ∧ (w' = w ∧ Qu D T' o v' l) := by
  have hR := hq.rd S hi
  refine ⟨_, w, r_sliceLo hR h1 h2 (by omega) (by rw [List.length_cons]; omega), rfl, ?_⟩
  rcases hq with ⟨_, h, _⟩ | ⟨gb, ofs, cap, cur, rfl, rfl, hm, hc, hfit, ht⟩
  · cases h
  · rw [List.length_cons] at *
    refine .inr ⟨gb, ofs + (if cap - 1 = 0 then 0 else D.sz), cap - 1, cur, ?_, rfl, by omega, by omega, ?_, ?_⟩
    · simp only [sliceV, Int.toNat_one, Option.map_some]
      by_cases h1 : cap = 1
      · simp [h1, add_lit]
      · have h2 : ¬ cap - 1 = 0 := by omega
        simp [h1, h2, add_lit]
        rfl
    · have : cap * D.sz = (cap - 1) * D.sz + D.sz := by rw [← Nat.succ_mul]; congr 1; omega
      split
      · rename_i h0; rw [h0]; omega
      · omega
    · have e : fl D (x :: l) = D.enc x ++ fl D l := by simp [fl]
      have := congrArg (List.drop D.sz) ht
      rw [e, List.drop_left' (D.len x), List.drop_take, List.drop_drop, Nat.add_mul, Nat.one_mul, Nat.add_sub_cancel] at this
      by_cases h0 : cap - 1 = 0
      · rw [if_pos h0]
        have hl0 : l = [] := List.length_eq_zero_iff.1 (by omega)
        subst hl0; simp [fl]
      · rw [if_neg h0]; exact this
end
end Go.Gx
/-
  slices.SortFunc on a row of the call's own: the kit's contract, told of objects.
-/
namespace Go.Gx
open Go Go.RowKit
set_option linter.unusedVariables false
set_option linter.unusedSimpArgs false

theorem fl_get {α : Type} [Inhabited α] (D : Flat α) (h0 : 0 < D.sz) : ∀ (l : List α) (t : Nat), t < l.length * D.sz → (fl D l)[t]? = some ((D.enc (l.getD (t / D.sz) default))[t % D.sz]!)
  | [], t, h => by simp at h
  | x :: r, t, h => by
    simp only [fl, List.flatMap_cons]
    by_cases ht : t < D.sz
    · rw [List.getElem?_append_left (by rw [D.len]; exact ht), Nat.div_eq_of_lt ht, Nat.mod_eq_of_lt ht]
      have : t < (D.enc x).length := by rw [D.len]; exact ht
      simp [List.getElem?_eq_getElem this, this]
    · rw [List.getElem?_append_right (by rw [D.len]; omega), D.len]
      have := fl_get D h0 r (t - D.sz) (by simp only [List.length_cons, Nat.add_mul] at h; omega)
      rw [show (List.flatMap D.enc r)[t - D.sz]? = (fl D r)[t - D.sz]? from rfl, this]
      have e : t / D.sz = (t - D.sz) / D.sz + 1 := by
        rw [Nat.div_eq_sub_div h0 (by omega)]
      rw [e, show t % D.sz = (t - D.sz) % D.sz from Nat.mod_eq_sub_mod (by omega)]
      rfl

theorem flatK_list {α : Type} [Inhabited α] (D : Flat α) (h0 : 0 < D.sz) (l : List α) : (Go.Sort.flatK D.enc D.sz l.toArray).toList = fl D l := by
  apply List.ext_getElem?
  intro t
  by_cases ht : t < l.length * D.sz
  · rw [fl_get D h0 l t ht]
    have hd : t / D.sz < l.length := Nat.div_lt_of_lt_mul (by rw [Nat.mul_comm]; exact ht)
    simp [Go.Sort.flatK, ht, hd, List.getD]
  · rw [List.getElem?_eq_none (by simp [Go.Sort.flatK]; omega), List.getElem?_eq_none (by rw [fl_length]; omega)]

theorem grown_sortK {w : World} {g n : Nat} {os : Array Obj} (F : Array Value) : w.grownBy (Go.Sort.grow (Go.Sort.putRow id (Go.Sort.ahead w n) g 0 F) os) (some g) := by
  refine ⟨rfl, rfl, rfl, by simp, fun k hk hne => ?_⟩
  rw [Go.Sort.heap_grow_old _ _ (by simpa using hk)]
  have : g ≠ k := fun e => hne (by rw [e])
  simp [Go.Sort.putRow, Go.Sort.mapBlock, Go.Sort.ahead, Array.getElem?_modify, this]
theorem heap_sortK {w : World} {g n : Nat} {os : Array Obj} {cur : Array Value} {e : TypeId} {fr : Nat × Nat} (F : Array Value) (hb : w.heap[g]? = some (.cells cur e fr)) :
    (Go.Sort.grow (Go.Sort.putRow id (Go.Sort.ahead w n) g 0 F) os).heap[g]? = some (.cells (Go.Sort.putCells id 0 F cur) e fr) := by
  have hg : g < w.heap.size := (Array.getElem?_eq_some_iff.1 hb).1
  rw [Go.Sort.heap_grow_old _ _ (by simpa using hg)]
  simp [Go.Sort.putRow, Go.Sort.mapBlock, Go.Sort.ahead, Array.getElem?_modify, hb, Go.Sort.onCells]
theorem take_putK (cur F : Array Value) (h : F.size ≤ cur.size) : (Go.Sort.putCells id 0 F cur).toList.take F.size = F.toList := by
  apply List.ext_getElem?
  intro j
  by_cases hj : j < F.size
  · rw [List.getElem?_take_of_lt hj, Array.getElem?_toList]
    simp [Go.Sort.putCells, hj, show j < cur.size by omega]
  · rw [List.getElem?_take_eq_none (by omega), List.getElem?_eq_none (by simp; omega)]

theorem sort_row {α : Type} [Inhabited α] {D : Flat α} (h0 : 0 < D.sz) {P : Program} {f : FuncId} {fv : Value} {lt : α → α → Bool} {w0 w : World} {os : List Ob} {i T b cap : Nat} {l : List α} (S : St w0 w os) (hi : os[i]? = some (rowOb D T (.slice (some ⟨b, 0, none⟩) l.length cap) l))
    (hcall : Go.Sort.HoldsK D.enc D.sz w b 0 l.toArray → b < w.heap.size → Calls P f #[.slice (some ⟨b, 0, none⟩) l.toArray.size cap, fv] w fun e w' =>
      e = .returned (.tuple #[]) ∧ ∃ d' n os', Go.Sort.PermIn 0 l.toArray.size l.toArray d' ∧ Go.Sort.SortedIn lt 0 l.toArray.size d' ∧ w' = Go.Proofs.sortWorldK D.enc D.sz w b 0 n d' os') :
    CallsW P f #[.slice (some ⟨b, 0, none⟩) l.length cap, fv] w fun v w' => v = .tuple #[] ∧ ∃ l', l'.Perm l ∧ l'.length = l.length ∧ l'.Pairwise (fun x y => lt y x = false) ∧ St w0 w' (os.set i (rowOb D T (.slice (some ⟨b, 0, none⟩) l.length cap) l')) := by
  have hh : w.ownsRow w0.heap.size T D.sz (.slice (some ⟨b, 0, none⟩) l.length cap) l.length (fl D l) := S.ok _ (mem_of_get hi)
  obtain ⟨hl, h⟩ := hh
  rcases h with ⟨h, _⟩ | ⟨g', cap', cur, hv', hb, hg, hn, hm, hcs, htk⟩
  · cases h
  cases hv'
  have hcur : (fl D l).length ≤ cur.size := by rw [hl, hcs]; exact Nat.mul_le_mul_right _ hn
  have hF : (Go.Sort.flatK D.enc D.sz l.toArray).toList = fl D l := flatK_list D h0 l
  have hH : Go.Sort.HoldsK D.enc D.sz w b 0 l.toArray := by
    intro j hj
    have hj' : j < l.length * D.sz := by simpa using hj
    have h1 : (cur.toList.take (l.length * D.sz))[j]? = (fl D l)[j]? := by rw [htk]
    rw [List.getElem?_take_of_lt hj', ← hF] at h1
    refine ⟨?_, by simp [World.frozen?, hg]⟩
    simp only [World.cell?, hg, Nat.zero_add, Option.isSome_none, Bool.false_eq_true, if_false]
    rw [← Array.getElem?_toList, h1, Array.getElem?_toList, Array.getElem?_eq_getElem hj, getElem!_pos _ j hj]
    rfl
  refine ⟨(Calls.mono (hcall hH (heap_lt hg)) fun e w' ⟨he, d', n, os', hp, hs, hw'⟩ => ?_)⟩
  obtain ⟨hp1, hp2, hp3⟩ := hp
  have hsz : d'.toList.length = l.length := by simpa using hp1
  have hperm : d'.toList.Perm l := by
    have e1 : (d'.extract 0 l.toArray.size).toList = d'.toList := by
      rw [Array.toList_extract, List.extract]
      simp only [Nat.sub_zero, List.drop_zero]
      rw [List.take_of_length_le (by rw [Array.length_toList, hp1]; exact Nat.le_refl _)]
    have e2 : (l.toArray.extract 0 l.toArray.size).toList = l := by simp
    rw [e1, e2] at hp3
    exact hp3
  have hpw : d'.toList.Pairwise (fun x y => lt y x = false) := by
    refine List.pairwise_iff_getElem.2 fun p q hp hq hpq => ?_
    have hq' : q < d'.size := by simpa using hq
    have hp' : p < d'.size := by simpa using hp
    have := hs p q (Nat.zero_le _) hpq (by rw [hp1] at hq'; simpa using hq')
    simpa [hq', hp'] using this
  subst hw'
  refine ⟨_, he, rfl, d'.toList, hperm, hsz, hpw, ?_⟩
  have hF' : (Go.Sort.flatK D.enc D.sz d').toList = fl D d'.toList := by
    have := flatK_list D h0 d'.toList
    simpa using this
  have hFs : (Go.Sort.flatK D.enc D.sz d').size = l.length * D.sz := by
    have := congrArg List.length hF'
    rw [fl_length, hsz] at this
    simpa using this
  refine S.write hi (by exact grown_sortK (n := n) (os := os') (Go.Sort.flatK D.enc D.sz d')) ⟨by rw [fl_length], .inr ⟨b, cap, _, ?_, hb, heap_sortK _ hg, by rw [hsz]; exact hn, hm, by simp [Go.Sort.putCells, hcs], ?_⟩⟩ (.inl rfl)
  · rw [hsz]
  · rw [hsz, ← hF', ← hFs]
    exact take_putK cur _ (by rw [hFs, ← hl]; exact hcur)
end Go.Gx
/-
  Worlds that only grow, and whose draws are counted.
-/
namespace Go.Gx
open Go Go.RowKit
set_option linter.unusedVariables false
set_option linter.unusedSimpArgs false

structure GX (w w' : World) : Prop where
  below : Below w.heap.size w w'
  drawn : w.drawn ≤ w'.drawn
theorem GX.refl (w : World) : GX w w := ⟨Below.refl _ _, Nat.le_refl _⟩
theorem GX.trans {a b c : World} (h : GX a b) (k : GX b c) : GX a c := ⟨h.below.trans (k.below.mono h.below.size), Nat.le_trans h.drawn k.drawn⟩
theorem GX.alloc (w : World) (o : Obj) : GX w (w.alloc o) := ⟨below_alloc _ _, Nat.le_refl _⟩
theorem GX.drew (w : World) : GX w { w with drawn := w.drawn + 1 } := ⟨drew_grown w, Nat.le_succ _⟩
theorem GX.grow {w w' : World} (h : GX w w') : ∃ q os', w' = Go.Sort.grow (w.drewN q) os' := by
  obtain ⟨⟨h1, h2, h3, h4, h5⟩, h6⟩ := h
  refine ⟨w'.drawn - w.drawn, w'.heap.extract w.heap.size w'.heap.size, ?_⟩
  obtain ⟨heap, tape, drawn, os, output⟩ := w
  obtain ⟨heap', tape', drawn', os', output'⟩ := w'
  simp only at h1 h2 h3 h4 h5 h6
  subst h1 h2 h3
  unfold Go.Sort.grow World.drewN
  simp only [World.mk.injEq, and_true, true_and]
  refine ⟨?_, by omega⟩
  apply Array.ext_getElem?
  intro j
  rw [Array.getElem?_append]
  split
  · rename_i hj; exact h5 j hj
  · rename_i hj
    rw [Array.getElem?_extract]
    split
    · congr 1; omega
    · rw [Array.getElem?_eq_none (by omega)]
section
variable {P : Program} {ρ : Operand → Value} {w w0 : World} {d : Option Tmp} {ty : TypeId} {pos : String} {af : Array Edge} {g : Option (Nat × Bool)} {T : TypeId} {s t : Operand} {os : List Ob}
theorem r_boxX {v : Value} (S : St w0 w os) (h1 : ρ s = v) :
    ∃ v' w', Runs P ρ ⟨d, .box T s, ty, pos, af, g⟩ w (.ok (.value v') w') ∧ ∃ b, v' = .pointer (some ⟨b, 0, none⟩) ∧ GX w w' ∧ St w0 w' (os ++ [.var b T v.cells.toList]) := by
  refine ⟨_, w.alloc (.cells v.cells T), ⟨?_⟩, w.heap.size, rfl, GX.alloc _ _, S.new (below_alloc _ _) ⟨Nat.le_refl _, by simpa using heap_alloc_new w _⟩⟩
  simp only [execOp, h1, Instr.box]
  rfl
end
end Go.Gx
/-
  A region that draws its order: loads and values; then one operation that grows the world (a call); then values of a class of worlds, beside writes that stay in the class.
-/
namespace Go.Gx
open Go Go.RowKit Go.Gx
set_option linter.unusedVariables false
set_option linter.unusedSimpArgs false

section
variable {P : Program} {ops : Array Oper} {Q : Exit → Act → World → Prop} {md : Region.Mode} {J : World → Prop} {nj : Nat → Bool}
def headKB (md : Region.Mode) (ops : Array Oper) (k : Nat) (hs2 ts us : List Nat) : List Nat → Array Bool → Bool
  | [], listed => decide (Region.ready md ops listed = [k]) && headJB md ops ts us hs2 (listed.setIfInBounds k true)
  | i :: is, listed => (Region.ready md ops listed).contains i && Region.free md ops listed i && (us.all fun d => reachG md ops i ops.size d) && headKB md ops k hs2 ts us is (listed.setIfInBounds i true)
def permKB (md : Region.Mode) (ops : Array Oper) (hs : List Nat) (k : Nat) (hs2 ts us : List Nat) : Bool := Region.noSelect ops && headKB md ops k hs2 ts us hs (Array.replicate ops.size false)
def oneK (P : Program) (ops : Array Oper) (Q : Exit → Act → World → Prop) (J : World → Prop) (o : Oper) (K : Act → World → Prop) (a : Act) (w : World) : Prop :=
  if Region.wanted o (yielded ops a.tmps) = true then Oper.sp P o a w (fun a' w' => J w' ∧ K a' w') Q else J w ∧ K (a.put o.dst undef) w
theorem headK {l : List Oper} {hs2 ts us : List Nat} {k : Nat} {ok : Oper} (hk : l.toArray[k]? = some ok) (hsel : Region.noSelect l.toArray = true) (hQ : ∀ c a w, ¬ Q (.panic c) a w) :
    ∀ (is : List Nat) (listed : Array Bool) (a : Act) (w : World), headKB md l.toArray k hs2 ts us is listed = true → ClosedG md l.toArray listed → J w →
    wpJ P l.toArray J (fun a' => oneK P l.toArray Q J ok (fun a2 w2 => wpJ P l.toArray J (fun a3 => sListJ P l.toArray Q J (Pm.pk l us) (Pm.pk l ts) a3 w2) (Pm.pk l hs2) a2) a' w) (Pm.pk l is) a →
    sAnyJ P md l.toArray Q J (fun d => !us.contains d) (is.length + (1 + (hs2.length + (ts.length + us.length)))) listed a w
  | [], listed, a, w, hB, hc, hJ, h => by
    simp only [headKB, Bool.and_eq_true, decide_eq_true_eq] at hB
    have e : ([] : List Nat).length + (1 + (hs2.length + (ts.length + us.length))) = hs2.length + (ts.length + us.length) + 1 := by simp; omega
    rw [e]
    have hr : k ∈ Region.ready md l.toArray listed := by rw [hB.1]; exact List.mem_singleton.2 rfl
    refine ⟨fun h1 => (by rw [hB.1] at h1; cases h1), fun i hi => ?_⟩
    rw [hB.1] at hi
    have hik : i = k := List.mem_singleton.1 hi
    subst hik
    have h' : oneK P l.toArray Q J ok (fun a2 w2 => wpJ P l.toArray J (fun a3 => sListJ P l.toArray Q J (Pm.pk l us) (Pm.pk l ts) a3 w2) (Pm.pk l hs2) a2) a w := h
    have hw : sOp P l.toArray Q i (fun a' w' => J w' ∧ wpJ P l.toArray J (fun a3 => sListJ P l.toArray Q J (Pm.pk l us) (Pm.pk l ts) a3 w') (Pm.pk l hs2) a') a w := by
      unfold sOp; simp only [hk]; exact h'
    exact sOp_mono (fun a' w' h2 => ⟨fun _ => h2.1, headJ hsel hQ hs2 _ a' w' hB.2 (hc.set hr) h2.1 h2.2⟩) hw
  | i :: is, listed, a, w, hB, hc, hJ, h => by
    simp only [headKB, Bool.and_eq_true] at hB
    obtain ⟨⟨⟨hr, hf⟩, hd⟩, hB'⟩ := hB
    have hr' : i ∈ Region.ready md l.toArray listed := by simpa using hr
    obtain ⟨_, o, h0, _⟩ := mem_ready.1 hr'
    rw [Pm.pk, Pm.pk_get h0] at h
    have hy : ∃ v, YieldsJ P l.toArray J o v a ∧ wpJ P l.toArray J (fun a' => oneK P l.toArray Q J ok (fun a2 w2 => wpJ P l.toArray J (fun a3 => sListJ P l.toArray Q J (Pm.pk l us) (Pm.pk l ts) a3 w2) (Pm.pk l hs2) a2) a' w) (Pm.pk l is) (a.put o.dst v) := by
      unfold wpJ at h
      by_cases hw : Region.wanted o (yielded l.toArray a.tmps) = true
      · rw [if_pos hw] at h
        obtain ⟨v, h1, h2⟩ := h
        exact ⟨v, .inl ⟨hw, h1⟩, h2⟩
      · rw [if_neg hw] at h
        exact ⟨undef, .inr ⟨by simpa using hw, rfl⟩, h⟩
    obtain ⟨v, hy, hK⟩ := hy
    have hrec := headK hk hsel hQ is _ (a.put o.dst v) w hB' (hc.set hr') hJ hK
    have e : (i :: is).length + (1 + (hs2.length + (ts.length + us.length))) = is.length + (1 + (hs2.length + (ts.length + us.length))) + 1 := by simp; omega
    rw [e]
    exact firstJ h0 (Region.noSelect_spec hsel) (fun c a w h => absurd h (hQ _ _ _)) (fun d hdu hds => List.all_eq_true.1 hd d (by simpa using hdu)) _ listed a w (Region.free_spec h0 hf) hc hr' hy hJ hrec
end
/-- The one operation that grows the world. -/
structure kq (P : Program) (n : Nat) (ops : Array Oper) (Q : Post) (J : World → Prop) (o : Oper) (K : (Nat → Value) → World → Prop) (σ : Nat → Value) (w : World) : Prop where mk :: (out : oneK P ops (lift n Q) J o (fun a w => ∃ σ', a = Fr n σ' ∧ K σ' w) (Fr n σ) w)
theorem kq_callV {P : Program} {n : Nat} {ops : Array Oper} {Q : Post} {J : World → Prop} {o : Oper} {K : (Nat → Value) → World → Prop} {σ : Nat → Value} {w : World} {v : Value} {f : FuncId} {args : Array Value} (hw : wantS o ops n σ = true) (hrun : Runs P (opv (cut n σ)) o w (.ok (.enter f args) w)) (hc : CallsV P f args w v)
    (k : ∀ w1, Below w.heap.size w w1 → J w1 ∧ K (updO σ o.dst v) w1) : kq P n ops Q J o K σ w := by
  refine ⟨?_⟩
  unfold oneK
  rw [if_pos (by rw [yielded_eq]; exact hw)]
  left
  left
  unfold Oper.wp
  rw [Fr_eval, hrun.out, Oper.upon_enter]
  refine Calls.mono hc.out fun e w1 ⟨he, hb⟩ => ?_
  subst he
  exact ⟨(k w1 hb).1, updO σ o.dst v, by rw [Fr_put], (k w1 hb).2⟩
theorem WP_drawK {P : Program} {n : Nat} {Q : Post} {σ : Nat → Value} {w : World} {id : Nat} {l : List Oper} (J : World → Prop) (hs : List Nat) (k : Nat) (hs2 ts us : List Nat) (ok : Oper) (hk : l.toArray[k]? = some ok) (hm : P.follows .mixedOrders = true) (hz : Nat.beq (hs.length + (1 + (hs2.length + (ts.length + us.length)))) l.length = true) (hB : permKB .any l.toArray hs k hs2 ts us = true)
    (hJ : ∀ w', Below w.heap.size w w' → J w')
    (h : ∀ w', Below w.heap.size w w' → jq P n l.toArray J (fun σ' => kq P n l.toArray (calm Q) J ok (fun σ2 w2 => jq P n l.toArray J (fun σ3 => wj P n l.toArray (calm Q) J (Pm.pk l us) (Pm.pk l ts) σ3 w2) (Pm.pk l hs2) σ2) σ' w') (Pm.pk l hs) σ) : WP P n (.region id l.toArray true) Q σ w := by
  refine ⟨sw_mono NoPanic.imp (sw_any hm (sAny_of_J (J := J) (nj := fun d => !us.contains d) _ _ _ _ ?_))⟩
  simp only [permKB, Bool.and_eq_true] at hB
  have hq : lift n (calm Q) = NoPanic (lift n Q) := by
    funext e a w
    cases e <;> simp [lift, calm, NoPanic]
  have hb : Below w.heap.size w { w with drawn := w.drawn + 1 } := drew_grown w
  have key := headK (P := P) (Q := NoPanic (lift n Q)) (md := .any) (J := J) (l := l) (hs2 := hs2) (ts := ts) (us := us) hk hB.1 (fun c a w h => by simp [NoPanic] at h) hs (Array.replicate l.toArray.size false) (Fr n σ) { w with drawn := w.drawn + 1 } hB.2 (fun j oj _ hl => by rw [getD_replicate_false] at hl; cases hl) (hJ _ hb)
  have e : hs.length + (1 + (hs2.length + (ts.length + us.length))) = l.toArray.size := by simpa using Nat.eq_of_beq_eq_true hz
  rw [e] at key
  refine key ?_
  have mono2 : ∀ (w2 : World) (l' : List Oper) (a : Act), wpJ P l.toArray J (fun a => ∃ σ', a = Fr n σ' ∧ wj P n l.toArray (calm Q) J (Pm.pk l us) (Pm.pk l ts) σ' w2) l' a →
      wpJ P l.toArray J (fun a' => sListJ P l.toArray (NoPanic (lift n Q)) J (Pm.pk l us) (Pm.pk l ts) a' w2) l' a := by
    intro w2 l'
    induction l' with
    | nil => rintro a ⟨σ', rfl, hh⟩; rw [← hq]; exact hh.out
    | cons o r ih =>
      intro a ha
      unfold wpJ at ha ⊢
      split
      · rename_i hw; rw [if_pos hw] at ha; obtain ⟨v, h1, h2⟩ := ha; exact ⟨v, h1, ih _ h2⟩
      · rename_i hw; rw [if_neg hw] at ha; exact ih _ ha
  have one : ∀ (σ' : Nat → Value) (w' : World), kq P n l.toArray (calm Q) J ok (fun σ2 w2 => jq P n l.toArray J (fun σ3 => wj P n l.toArray (calm Q) J (Pm.pk l us) (Pm.pk l ts) σ3 w2) (Pm.pk l hs2) σ2) σ' w' →
      oneK P l.toArray (NoPanic (lift n Q)) J ok (fun a2 w2 => wpJ P l.toArray J (fun a3 => sListJ P l.toArray (NoPanic (lift n Q)) J (Pm.pk l us) (Pm.pk l ts) a3 w2) (Pm.pk l hs2) a2) (Fr n σ') w' := by
    intro σ' w' hh
    have h1 := hh.out
    rw [hq] at h1
    have h2 : sOp P l.toArray (NoPanic (lift n Q)) k (fun a w => J w ∧ ∃ σ2, a = Fr n σ2 ∧ jq P n l.toArray J (fun σ3 => wj P n l.toArray (calm Q) J (Pm.pk l us) (Pm.pk l ts) σ3 w) (Pm.pk l hs2) σ2) (Fr n σ') w' := by
      unfold sOp; simp only [hk]; exact h1
    have h3 := sOp_mono (fun a' w'' ⟨hj, σ2, ha, h2⟩ => (show J w'' ∧ wpJ P l.toArray J (fun a3 => sListJ P l.toArray (NoPanic (lift n Q)) J (Pm.pk l us) (Pm.pk l ts) a3 w'') (Pm.pk l hs2) a' from ⟨hj, by subst ha; exact mono2 _ _ _ h2.out⟩)) h2
    unfold sOp at h3
    simp only [hk] at h3
    exact h3
  have mono : ∀ (l' : List Oper) (a : Act) (w' : World), wpJ P l.toArray J (fun a => ∃ σ', a = Fr n σ' ∧ kq P n l.toArray (calm Q) J ok (fun σ2 w2 => jq P n l.toArray J (fun σ3 => wj P n l.toArray (calm Q) J (Pm.pk l us) (Pm.pk l ts) σ3 w2) (Pm.pk l hs2) σ2) σ' w') l' a →
      wpJ P l.toArray J (fun a' => oneK P l.toArray (NoPanic (lift n Q)) J ok (fun a2 w2 => wpJ P l.toArray J (fun a3 => sListJ P l.toArray (NoPanic (lift n Q)) J (Pm.pk l us) (Pm.pk l ts) a3 w2) (Pm.pk l hs2) a2) a' w') l' a := by
    intro l'
    induction l' with
    | nil => rintro a w' ⟨σ', rfl, hh⟩; exact one _ _ hh
    | cons o r ih =>
      intro a w' ha
      unfold wpJ at ha ⊢
      split
      · rename_i hw; rw [if_pos hw] at ha; obtain ⟨v, h1, h2⟩ := ha; exact ⟨v, h1, ih _ _ h2⟩
      · rename_i hw; rw [if_neg hw] at ha; exact ih _ _ ha
  exact mono _ _ _ (h _ hb).out
end Go.Gx
