/-
  Maps of the call's own: their entries told as a list.
-/
import Derived.Test.YteplelijhkmbkaaDoorGxObs
namespace Go.Gx
open Go Go.RowKit
set_option linter.unusedVariables false
set_option linter.unusedSimpArgs false

/-- The entries of a map, the first one born at i. -/
def mEs {K V : Type} (eK : K → Value) (eV : V → Value) : List (K × V) → Nat → List MapEntry
  | [], _ => []
  | x :: r, i => { key := eK x.1, val := eV x.2, born := i } :: mEs eK eV r (i + 1)
abbrev mapOb {K V : Type} (eK : K → Value) (eV : V → Value) (b : Nat) (l : List (K × V)) : Ob := .raw b (.map (mEs eK eV l 0).toArray l.length)
def mFind {K V : Type} [DecidableEq K] (k : K) (eV : V → Value) : List (K × V) → Nat → Option (Nat × Value)
  | [], _ => none
  | x :: r, i => if k = x.1 then some (i, eV x.2) else mFind k eV r (i + 1)
def mGet {K V : Type} [DecidableEq K] (k : K) : List (K × V) → Option V
  | [] => none
  | x :: r => if k = x.1 then some x.2 else mGet k r
def mPut {K V : Type} [DecidableEq K] (k : K) (v : V) : List (K × V) → List (K × V)
  | [] => [(k, v)]
  | x :: r => if k = x.1 then (x.1, v) :: r else x :: mPut k v r
theorem mEs_length {K V : Type} (eK : K → Value) (eV : V → Value) : ∀ (l : List (K × V)) (i : Nat), (mEs eK eV l i).length = l.length
  | [], _ => rfl
  | _ :: r, i => by simp [mEs, mEs_length eK eV r (i + 1)]
theorem mEs_append {K V : Type} (eK : K → Value) (eV : V → Value) : ∀ (l r : List (K × V)) (i : Nat), mEs eK eV (l ++ r) i = mEs eK eV l i ++ mEs eK eV r (i + l.length)
  | [], r, i => by simp [mEs]
  | x :: l, r, i => by simp [mEs, mEs_append eK eV l r (i + 1)]; congr 1; omega
theorem mFind_get {K V : Type} [DecidableEq K] (k : K) (eV : V → Value) : ∀ (l : List (K × V)) (i : Nat), (mFind k eV l i).map (·.2) = (mGet k l).map eV
  | [], _ => rfl
  | x :: r, i => by
    unfold mFind mGet
    split
    · rfl
    · exact mFind_get k eV r (i + 1)
theorem mFind_none {K V : Type} [DecidableEq K] (k : K) (v : V) (eV : V → Value) : ∀ (l : List (K × V)) (i : Nat), mFind k eV l i = none → mPut k v l = l ++ [(k, v)]
  | [], _, _ => rfl
  | x :: r, i, h => by
    unfold mFind at h
    unfold mPut
    split at h
    · cases h
    · rename_i hk
      rw [if_neg hk, mFind_none k v eV r (i + 1) h]; rfl
theorem mFind_some {K V : Type} [DecidableEq K] (k : K) (v : V) (eK : K → Value) (eV : V → Value) : ∀ (l : List (K × V)) (i j : Nat) (u : Value), mFind k eV l i = some (j, u) → i ≤ j ∧ j < i + l.length ∧ (∃ e, (mEs eK eV l i)[j - i]? = some e ∧ e.key = eK k) ∧ mEs eK eV (mPut k v l) i = (mEs eK eV l i).modify (j - i) (fun e => { e with key := eK k, val := eV v }) ∧ (mPut k v l).length = l.length
  | [], _, _, _, h => by cases h
  | x :: r, i, j, u, h => by
    unfold mFind at h
    split at h
    · rename_i hk
      cases h
      subst hk
      refine ⟨Nat.le_refl _, by simp, ?_, ?_, ?_⟩
      · rw [Nat.sub_self]; exact ⟨_, rfl, rfl⟩
      · rw [Nat.sub_self]; unfold mPut; rw [if_pos rfl]; rfl
      · unfold mPut; rw [if_pos rfl]; rfl
    · rename_i hk
      obtain ⟨h1, h2, ⟨e, h3, h3'⟩, h4, h5⟩ := mFind_some k v eK eV r (i + 1) j u h
      have e1 : j - i = (j - (i + 1)) + 1 := by omega
      refine ⟨by omega, by simp; omega, ⟨e, by rw [e1]; exact h3, h3'⟩, ?_, ?_⟩
      · unfold mPut; rw [if_neg hk, e1]
        show _ :: mEs eK eV (mPut k v r) (i + 1) = _
        rw [h4]; rfl
      · unfold mPut; rw [if_neg hk]; simp [h5]

theorem getObj_run {P : Program} {w : World} {r : Nat} {es : Array MapEntry} {c : Nat} (h : w.heap[r]? = some (.map es c)) : (getObj r).run P w = .ok (.map es c) w := by simp [getObj, Sem.run, h]
theorem setObj_run {P : Program} {w : World} {r : Nat} {es : Array MapEntry} {c : Nat} (o' : Obj) (h : w.heap[r]? = some (.map es c)) : (setObj r o').run P w = .ok () { w with heap := w.heap.setIfInBounds r o' } := by simp [setObj, Sem.run, h]
/-- Keys of a map, by what they are told as. -/
class MKey (P : Program) (T : TypeId) {K : Type} [DecidableEq K] (eK : K → Value) : Prop where
  find : ∀ {V : Type} (eV : V → Value) (k : K) (l : List (K × V)) (w : World), (Instr.findKey T (eK k) (mEs eK eV l 0)).run P w = .ok (mFind k eV l 0) w
  check : ∀ (e : Bool) (k : K) (w : World), (Instr.checkKey e 10000 T (eK k)).run P w = .ok () w
  same : ∀ k : K, Instr.sameBits 10000 (eK k) (eK k) = true
class IsMap (P : Program) (T : TypeId) (k e : outParam TypeId) : Prop where out : P.underlying T = some (.map k e)

section
variable {P : Program} {w : World} {T : TypeId}
theorem findNow_int {V : Type} {q : IntKind} (eV : V → Value) (k : Int) : ∀ (l : List (Int × V)) (i : Nat), Instr.findNow (.int q) (.int .i64 k) (mEs (fun x => .int .i64 x) eV l i) i = some (mFind k eV l i)
  | [], _ => rfl
  | x :: r, i => by
    have ih := findNow_int (q := q) eV k r (i + 1)
    unfold mEs mFind Instr.findNow
    by_cases h : k = x.1
    · simp [Instr.sameNow, h]
    · have hb : (k == x.1) = false := by simpa using h
      simp [Instr.sameNow, h, hb, ih]
theorem MKey.int {q : IntKind} (h : P.underlying T = some (.int q)) : MKey P T (fun x : Int => Value.int .i64 x) where
  find eV k l w := by
    unfold Instr.findKey
    refine (run_bind (run_underlying' h)).trans ?_
    rw [findNow_int]; rfl
  check e k w := by
    have e1 : (10000 : Nat) = 9999 + 1 := rfl
    rw [e1, Instr.checkKey]
    refine (run_bind (run_underlying' h)).trans ?_
    rfl
  same k := by simp [Instr.sameBits]
theorem findAsking_agg {K V : Type} [DecidableEq K] {eK : K → Value} (eV : V → Value) (hE : ∀ (a b : K) (w : World), (Op.equal T (eK a) (eK b)).run P w = .ok (decide (a = b)) w) (k : K) : ∀ (l : List (K × V)) (i : Nat) (w : World), (Instr.findAsking T (eK k) (mEs eK eV l i) i).run P w = .ok (mFind k eV l i) w
  | [], _, _ => rfl
  | x :: r, i, w => by
    have ih := findAsking_agg eV hE k r (i + 1) w
    unfold mEs mFind Instr.findAsking
    refine (run_bind (hE k x.1 w)).trans ?_
    by_cases h : k = x.1
    · simp [h]
    · simp [h, ih]
theorem mEs_shift : True := trivial
theorem MKey.agg {K : Type} [DecidableEq K] {eK : K → Value} {fs : Array Field} (h : P.underlying T = some (.struct fs)) (ha : ∀ k, ∃ cs, eK k = .agg cs) (hE : ∀ (a b : K) (w : World), (Op.equal T (eK a) (eK b)).run P w = .ok (decide (a = b)) w)
    (hc : ∀ (e : Bool) (k : K) (w : World), (Instr.checkKey e 10000 T (eK k)).run P w = .ok () w) (hs : ∀ k : K, Instr.sameBits 10000 (eK k) (eK k) = true) : MKey P T eK where
  find eV k l w := by
    unfold Instr.findKey
    refine (run_bind (run_underlying' h)).trans ?_
    obtain ⟨cs, hk⟩ := ha k
    cases l with
    | nil => rfl
    | cons x r =>
      have hn : Instr.findNow (.struct fs) (eK k) (mEs eK eV (x :: r) 0) 0 = none := by
        unfold mEs Instr.findNow
        rw [hk]; simp [Instr.sameNow]
      rw [hn]
      exact findAsking_agg eV hE k (x :: r) 0 w
  check := hc
  same := hs
end
section
variable {P : Program} {ρ : Operand → Value} {w w0 : World} {d : Option Tmp} {ty : TypeId} {pos : String} {af : Array Edge} {g : Option (Nat × Bool)} {T : TypeId} {s t u : Operand} {os : List Ob} {K V : Type} [DecidableEq K] {eK : K → Value} {eV : V → Value}
/-- What a map holds, in a world. -/
abbrev MapAt (w : World) (b : Nat) (eK : K → Value) (eV : V → Value) (l : List (K × V)) : Prop := w.heap[b]? = some (.map (mEs eK eV l 0).toArray l.length)
omit [DecidableEq K] in
theorem MapAt.mono {b : Nat} {l : List (K × V)} {w w' : World} (h : MapAt w b eK eV l) (hb : Below w.heap.size w w') : MapAt w' b eK eV l := by
  unfold MapAt at *
  rw [hb.block b (heap_lt h)]; exact h
omit [DecidableEq K] in
theorem St.mapAt {i b : Nat} {l : List (K × V)} (S : St w0 w os) (hi : os[i]? = some (mapOb eK eV b l)) : MapAt w b eK eV l := (S.ok _ (mem_of_get hi)).2
omit [DecidableEq K] in
theorem r_makeMap (S : St w0 w os) : ∃ v' w', Runs P ρ ⟨d, .makeMap T none, ty, pos, af, g⟩ w (.ok (.value v') w') ∧ ∃ b, v' = .map (some b) ∧ Below w.heap.size w w' ∧ St w0 w' (os ++ [mapOb eK eV b []]) := by
  refine ⟨.map (some w.heap.size), w.alloc (.map #[] 0), ⟨?_⟩, w.heap.size, rfl, below_alloc _ _, S.new (below_alloc _ _) ⟨Nat.le_refl _, by simpa [mEs] using heap_alloc_new w _⟩⟩
  simp only [execOp, Option.map_none, Instr.makeMap]
  rfl
theorem r_lookupH {kT eT : TypeId} {size bytes b : Nat} {z : Value} {l : List (K × V)} {k : K} [hM : IsMap P T kT eT] [hK : MKey P kT eK] [hI : TI P eT z size bytes] (hh : MapAt w b eK eV l) (h1 : ρ s = .map (some b)) (h2 : ρ t = eK k) :
    Runs P ρ ⟨d, .lookup T s t true, ty, pos, af, g⟩ w (.ok (.value (.tuple #[((mGet k l).map eV).getD z, .bool (mGet k l).isSome])) w) := by
  obtain ⟨ti, hti, hz, _⟩ := hI.out
  refine ⟨?_⟩
  simp only [execOp, h1, h2]
  refine run_bind (a := Value.tuple #[((mGet k l).map eV).getD z, .bool (mGet k l).isSome]) ?_
  unfold Instr.lookup
  refine (run_bind (run_underlying' hM.out)).trans ?_
  have hg := getObj_run (P := P) hh
  have hf := hK.find eV k l w
  have hfg := mFind_get k eV l 0
  have hc := hK.check (mEs eK eV l 0).isEmpty k w
  have hzr : (zeroValue eT).run P w = .ok z w := run_zeroValue' hti hz
  cases hm : mFind k eV l 0 with
  | none =>
    rw [hm] at hf hfg
    have hn : mGet k l = none := by cases e : mGet k l with
      | none => rfl
      | some x => rw [e] at hfg; cases hfg
    simp [hg, hf, hc, hzr, hn]
  | some p =>
    rw [hm] at hf hfg
    obtain ⟨x, hx⟩ : ∃ x, mGet k l = some x := by cases e : mGet k l with
      | none => rw [e] at hfg; cases hfg
      | some x => exact ⟨x, rfl⟩
    rw [hx] at hfg
    have hp : p.2 = eV x := by simpa using hfg
    obtain ⟨p1, p2⟩ := p
    simp at hp
    simp [hg, hf, hc, hx, hp]
theorem r_lookup {kT eT : TypeId} {size bytes i b : Nat} {z : Value} {l : List (K × V)} {k : K} [hM : IsMap P T kT eT] [hK : MKey P kT eK] [hI : TI P eT z size bytes] (S : St w0 w os) (hi : os[i]? = some (mapOb eK eV b l)) (h1 : ρ s = .map (some b)) (h2 : ρ t = eK k) :
    Runs P ρ ⟨d, .lookup T s t true, ty, pos, af, g⟩ w (.ok (.value (.tuple #[((mGet k l).map eV).getD z, .bool (mGet k l).isSome])) w) := r_lookupH (S.mapAt hi) h1 h2
theorem r_lookup1H {kT eT : TypeId} {size bytes b : Nat} {z : Value} {l : List (K × V)} {k : K} [hM : IsMap P T kT eT] [hK : MKey P kT eK] [hI : TI P eT z size bytes] (hh : MapAt w b eK eV l) (h1 : ρ s = .map (some b)) (h2 : ρ t = eK k) :
    Runs P ρ ⟨d, .lookup T s t false, ty, pos, af, g⟩ w (.ok (.value (((mGet k l).map eV).getD z)) w) := by
  obtain ⟨ti, hti, hz, _⟩ := hI.out
  refine ⟨?_⟩
  simp only [execOp, h1, h2]
  refine run_bind (a := ((mGet k l).map eV).getD z) ?_
  unfold Instr.lookup
  refine (run_bind (run_underlying' hM.out)).trans ?_
  have hg := getObj_run (P := P) hh
  have hf := hK.find eV k l w
  have hfg := mFind_get k eV l 0
  have hc := hK.check (mEs eK eV l 0).isEmpty k w
  have hzr : (zeroValue eT).run P w = .ok z w := run_zeroValue' hti hz
  cases hm : mFind k eV l 0 with
  | none =>
    rw [hm] at hf hfg
    have hn : mGet k l = none := by cases e : mGet k l with
      | none => rfl
      | some x => rw [e] at hfg; cases hfg
    simp [hg, hf, hc, hzr, hn]
  | some p =>
    rw [hm] at hf hfg
    obtain ⟨x, hx⟩ : ∃ x, mGet k l = some x := by cases e : mGet k l with
      | none => rw [e] at hfg; cases hfg
      | some x => exact ⟨x, rfl⟩
    rw [hx] at hfg
    have hp : p.2 = eV x := by simpa using hfg
    obtain ⟨p1, p2⟩ := p
    simp at hp
    simp [hg, hf, hc, hx, hp]
theorem r_lookup1 {kT eT : TypeId} {size bytes i b : Nat} {z : Value} {l : List (K × V)} {k : K} [hM : IsMap P T kT eT] [hK : MKey P kT eK] [hI : TI P eT z size bytes] (S : St w0 w os) (hi : os[i]? = some (mapOb eK eV b l)) (h1 : ρ s = .map (some b)) (h2 : ρ t = eK k) :
    Runs P ρ ⟨d, .lookup T s t false, ty, pos, af, g⟩ w (.ok (.value (((mGet k l).map eV).getD z)) w) := r_lookup1H (S.mapAt hi) h1 h2
theorem r_mapUpdate {kT eT : TypeId} {i b : Nat} {l : List (K × V)} {k : K} {v : V} [hM : IsMap P T kT eT] [hK : MKey P kT eK] (S : St w0 w os) (hi : os[i]? = some (mapOb eK eV b l)) (h1 : ρ s = .map (some b)) (h2 : ρ t = eK k) (h3 : ρ u = eV v) :
    ∃ w', Runs P ρ ⟨d, .mapUpdate T s t u, ty, pos, af, g⟩ w (.ok .skip w') ∧ St w0 w' (os.set i (mapOb eK eV b (mPut k v l))) := by
  have hh := S.ok _ (mem_of_get hi)
  have hg := getObj_run (P := P) hh.2
  have hf := hK.find eV k l w
  have hc := hK.check false k w
  have hlt : b < w.heap.size := heap_lt hh.2
  have wr : ∀ l' : List (K × V), St w0 { w with heap := w.heap.setIfInBounds b (.map (mEs eK eV l' 0).toArray l'.length) } (os.set i (mapOb eK eV b l')) := fun l' => by
    refine S.write hi ⟨rfl, rfl, rfl, by simp, fun j hj hne => ?_⟩ ⟨hh.1, by simp [hlt]⟩ (.inl rfl)
    have : b ≠ j := fun e => hne (by rw [e]; rfl)
    simp [Array.getElem?_setIfInBounds, this]
  have key : ∃ w', (Instr.mapUpdate T (.map (some b)) (eK k) (eV v)).run P w = .ok () w' ∧ St w0 w' (os.set i (mapOb eK eV b (mPut k v l))) := by
    refine ⟨_, ?_, wr (mPut k v l)⟩
    unfold Instr.mapUpdate
    refine (run_bind (run_underlying' hM.out)).trans ?_
    refine (run_bind hg).trans ?_
    refine (run_bind hc).trans ?_
    have hf' : (Instr.findKey kT (eK k) (mEs eK eV l 0).toArray.toList).run P w = .ok (mFind k eV l 0) w := hf
    refine (run_bind hf').trans ?_
    cases hm : mFind k eV l 0 with
    | none =>
      have hp := mFind_none k v eV l 0 hm
      have e1 : (mEs eK eV l 0).toArray.push { key := eK k, val := eV v, born := l.length } = (mEs eK eV (mPut k v l) 0).toArray := by
        rw [hp, mEs_append]; simp [mEs]
      have e2 : l.length + 1 = (mPut k v l).length := by rw [hp]; simp
      show (setObj b (.map ((mEs eK eV l 0).toArray.push { key := eK k, val := eV v, born := l.length }) (l.length + 1))).run P w = _
      rw [e1, e2]
      exact setObj_run _ hh.2
    | some p =>
      obtain ⟨j, u⟩ := p
      obtain ⟨h4, h5, ⟨e, h6, h7⟩, h8, h9⟩ := mFind_some k v eK eV l 0 j u hm
      rw [Nat.sub_zero] at h6 h8
      have hkey : (((mEs eK eV l 0).toArray[j]?).map (·.key)).getD (eK k) = eK k := by
        rw [List.getElem?_toArray, h6]; exact h7
      have hst : (Instr.keyThatStays (eK k) (eK k)).run P w = .ok (eK k) w := by
        unfold Instr.keyThatStays; rw [if_pos (hK.same k)]; rfl
      have e1 : ((mEs eK eV l 0).toArray.modify j fun e => { e with key := eK k, val := eV v }) = (mEs eK eV (mPut k v l) 0).toArray := by
        rw [h8]; simp
      show (do let key ← Instr.keyThatStays ((((mEs eK eV l 0).toArray[j]?).map (·.key)).getD (eK k)) (eK k); setObj b (.map ((mEs eK eV l 0).toArray.modify j fun e => { e with key, val := eV v }) l.length) : Sem Unit).run P w = _
      rw [hkey]
      refine (run_bind hst).trans ?_
      rw [e1, ← h9]
      exact setObj_run _ hh.2
  obtain ⟨w', hr, S'⟩ := key
  refine ⟨w', ⟨?_⟩, S'⟩
  simp only [execOp, h1, h2, h3]
  exact run_bind hr
theorem mEs_get {K V : Type} (eK : K → Value) (eV : V → Value) : ∀ (l : List (K × V)) (i m : Nat), (mEs eK eV l i)[m]? = (l[m]?).map fun x => { key := eK x.1, val := eV x.2, born := i + m }
  | [], _, _ => by simp [mEs]
  | x :: r, i, 0 => by simp [mEs]
  | x :: r, i, m + 1 => by
    have := mEs_get eK eV r (i + 1) m
    simp only [mEs, List.getElem?_cons_succ, this]
    congr 1; funext y; congr 1; omega
theorem run_choice {P : Program} {w : World} {n : Nat} (h : 0 < n) : ∃ i w1, (choose (.mapNext n)).run P w = .ok i w1 ∧ i < n ∧ Below w.heap.size w w1 := by
  rw [run_choose_drew]
  split
  · exact ⟨0, w, rfl, h, Below.refl _ _⟩
  · exact ⟨_, w.drew, rfl, Nat.mod_lt _ h, drew_grown w⟩
abbrev iterOb (b bi n : Nat) (seen : Array Nat) : Ob := .raw bi (.mapIter (some b) n seen n)
omit [DecidableEq K] in
theorem r_rangeH {kT eT : TypeId} {b : Nat} {l : List (K × V)} [hM : IsMap P T kT eT] (S : St w0 w os) (hh : MapAt w b eK eV l) (h1 : ρ s = .map (some b)) :
    ∃ v' w', Runs P ρ ⟨d, .range T s, ty, pos, af, g⟩ w (.ok (.value v') w') ∧ ∃ bi, v' = .pointer (some ⟨bi, 0, none⟩) ∧ Below w.heap.size w w' ∧ St w0 w' (os ++ [iterOb b bi l.length #[]]) := by
  have hg := getObj_run (P := P) hh
  refine ⟨.pointer (some ⟨w.heap.size, 0, none⟩), w.alloc (.mapIter (some b) l.length #[] l.length), ⟨?_⟩, w.heap.size, rfl, below_alloc _ _, S.new (below_alloc _ _) ⟨Nat.le_refl _, by simpa using heap_alloc_new w _⟩⟩
  simp only [execOp, h1]
  refine run_bind (a := Value.pointer (some ⟨w.heap.size, 0, none⟩)) ?_
  unfold Instr.range
  refine (run_bind (run_underlying' hM.out)).trans ?_
  simp [hg]
omit [DecidableEq K] in
theorem r_range {kT eT : TypeId} {i b : Nat} {l : List (K × V)} [hM : IsMap P T kT eT] (S : St w0 w os) (hi : os[i]? = some (mapOb eK eV b l)) (h1 : ρ s = .map (some b)) :
    ∃ v' w', Runs P ρ ⟨d, .range T s, ty, pos, af, g⟩ w (.ok (.value v') w') ∧ ∃ bi, v' = .pointer (some ⟨bi, 0, none⟩) ∧ Below w.heap.size w w' ∧ St w0 w' (os ++ [iterOb b bi l.length #[]]) := r_rangeH S (S.mapAt hi) h1
omit [DecidableEq K] in
theorem r_nextH {j b bi : Nat} {l : List (K × V)} {seen : Array Nat} (S : St w0 w os) (hh : MapAt w b eK eV l) (hj : os[j]? = some (iterOb b bi l.length seen)) (h1 : ρ s = .pointer (some ⟨bi, 0, none⟩)) :
    ∃ v' w', Runs P ρ ⟨d, .next s false, ty, pos, af, g⟩ w (.ok (.value v') w') ∧ ((v' = .tuple #[.bool false] ∧ (∀ m, m < l.length → m ∈ seen) ∧ St w0 w' os) ∨
      ∃ m x, m ∉ seen ∧ l[m]? = some x ∧ v' = .tuple #[.bool true, eK x.1, eV x.2] ∧ St w0 w' (os.set j (iterOb b bi l.length (seen.push m)))) := by
  have hit := S.ok _ (mem_of_get hj)
  have hg := getObj_run (P := P) hh
  have hgi : (getObj bi).run P w = .ok (.mapIter (some b) l.length seen l.length) w := by simp [getObj, Sem.run, hit.2]
  have hlt : bi < w.heap.size := heap_lt hit.2
  -- the entries that are left
  have hmem : ∀ e ∈ (mEs eK eV l 0), ∃ m x, l[m]? = some x ∧ e = { key := eK x.1, val := eV x.2, born := m } := fun e he => by
    obtain ⟨m, hm⟩ := List.getElem?_of_mem he
    rw [mEs_get] at hm
    cases hx : l[m]? with
    | none => rw [hx] at hm; cases hm
    | some x => rw [hx] at hm; exact ⟨m, x, hx, by cases hm; simp⟩
  have hlow : ∀ e ∈ (mEs eK eV l 0), e.born < l.length := fun e he => by
    obtain ⟨m, x, hx, rfl⟩ := hmem e he
    exact (List.getElem?_eq_some_iff.1 hx).1
  obtain ⟨L, hL⟩ : ∃ L, L = (mEs eK eV l 0).filter (fun e => !seen.contains e.born) := ⟨_, rfl⟩
  have hLm : ∀ e ∈ L, ∃ m x, m ∉ seen ∧ l[m]? = some x ∧ e = { key := eK x.1, val := eV x.2, born := m } := fun e he => by
    rw [hL] at he
    obtain ⟨h1, h2⟩ := List.mem_filter.1 he
    obtain ⟨m, x, hx, rfl⟩ := hmem e h1
    exact ⟨m, x, by simpa using h2, hx, rfl⟩
  have hLe : L = [] → ∀ m, m < l.length → m ∈ seen := fun h m hml => by
    obtain ⟨x, hx⟩ : ∃ x, l[m]? = some x := ⟨_, List.getElem?_eq_getElem hml⟩
    have hin : ({ key := eK x.1, val := eV x.2, born := m } : MapEntry) ∈ mEs eK eV l 0 := by
      refine List.mem_of_getElem? (i := m) ?_
      rw [mEs_get, hx]; simp
    rw [hL, List.filter_eq_nil_iff] at h
    have := h _ hin
    simpa using this
  have hold : L.filter (fun e => decide (e.born < l.length)) = L := by
    rw [List.filter_eq_self]
    intro e he
    rw [hL] at he
    exact decide_eq_true (hlow e (List.mem_filter.1 he).1)
  have hnew : L.filter (fun e => decide (e.born ≥ l.length)) = [] := by
    rw [List.filter_eq_nil_iff]
    intro e he
    rw [hL] at he
    have := hlow e (List.mem_filter.1 he).1
    simp; omega
  have hcond : (!seen.isEmpty && !(mEs eK eV l 0).toArray.isEmpty && (mEs eK eV l 0).toArray.all fun e => decide (e.born ≥ l.length)) = false := by
    cases l with
    | nil => simp [mEs]
    | cons x r => simp [mEs]
  have hleft : ((mEs eK eV l 0).toArray.filter fun e => !seen.contains e.born) = L.toArray := by rw [hL]; simp
  have hold' : (L.toArray.filter fun e => decide (e.born < l.length)) = L.toArray := by rw [List.filter_toArray, hold]
  have hnew' : (L.toArray.filter fun e => decide (e.born ≥ l.length)) = #[] := by rw [List.filter_toArray, hnew]
  by_cases hLn : L = []
  · obtain ⟨q, w1, hc, hq, hb⟩ := run_choice (P := P) (w := w) (n := 1) (by omega)
    refine ⟨.tuple #[.bool false], w1, ⟨?_⟩, .inl ⟨rfl, hLe hLn, S.grow hb⟩⟩
    simp only [execOp, h1]
    refine run_bind (a := Value.tuple #[.bool false]) ?_
    have hq0 : q = 0 := by omega
    subst hq0
    subst hLn
    simp only [Instr.next, Sem.run_bind, hgi, hg, Result.andThen_ok, hcond, Bool.false_eq_true, if_false, hleft, hold', hnew']
    have ec : ((if (#[] : Array MapEntry).isEmpty = true then #[none] else #[]) ++ Array.map some ((#[] : Array MapEntry) ++ #[]) : Array (Option MapEntry)) = #[none] := by simp
    rw [ec, show (#[none] : Array (Option MapEntry)).size = 1 from rfl, hc]
    rfl
  · obtain ⟨q, w1, hc, hq, hb⟩ := run_choice (P := P) (w := w) (n := L.length) (by cases L with | nil => exact absurd rfl hLn | cons _ _ => simp)
    have hLq : L[q]? = some L[q] := List.getElem?_eq_getElem hq
    obtain ⟨m, x, hmn, hx, he⟩ := hLm L[q] (List.getElem_mem hq)
    have hit1 : w1.heap[bi]? = some (.mapIter (some b) l.length seen l.length) := by rw [hb.block bi hlt]; exact hit.2
    have hs : (setObj bi (.mapIter (some b) l.length (seen.push m) l.length)).run P w1 = .ok () { w1 with heap := w1.heap.setIfInBounds bi (.mapIter (some b) l.length (seen.push m) l.length) } := by simp [setObj, Sem.run, hit1]
    have S1 := S.grow hb
    have hlt1 : bi < w1.heap.size := heap_lt hit1
    refine ⟨.tuple #[.bool true, eK x.1, eV x.2], _, ⟨?_⟩, .inr ⟨m, x, hmn, hx, rfl, S1.write (w' := { w1 with heap := w1.heap.setIfInBounds bi (.mapIter (some b) l.length (seen.push m) l.length) }) hj ⟨rfl, rfl, rfl, by simp, fun k hk hne => ?_⟩ ⟨hit.1, by simp [hlt1]⟩ (.inl rfl)⟩⟩
    · simp only [execOp, h1]
      refine run_bind (a := Value.tuple #[.bool true, eK x.1, eV x.2]) ?_
      have hne : L.toArray.isEmpty = false := by cases L with | nil => exact absurd rfl hLn | cons _ _ => rfl
      simp only [Instr.next, Sem.run_bind, hgi, hg, Result.andThen_ok, hcond, Bool.false_eq_true, if_false, hleft, hold', hnew', hne]
      have ec : ((#[] : Array (Option MapEntry)) ++ Array.map some (L.toArray ++ #[])) = (L.map some).toArray := by simp
      rw [ec, show (L.map some).toArray.size = L.length by simp, hc]
      simp only [Result.andThen_ok]
      have eq : (L.map some).toArray[q]? = some (some L[q]) := by simp [hq]
      rw [eq]
      show ((do setObj bi (Obj.mapIter (some b) l.length (seen.push L[q].born) l.length); pure (Value.tuple #[Value.bool true, L[q].key, L[q].val])) : Sem Value).run P w1 = _
      rw [he]
      exact (run_bind hs).trans rfl
    · have : bi ≠ k := fun e => hne (by rw [e]; rfl)
      simp [Array.getElem?_setIfInBounds, this]
omit [DecidableEq K] in
theorem r_next {i j b bi : Nat} {l : List (K × V)} {seen : Array Nat} (S : St w0 w os) (hi : os[i]? = some (mapOb eK eV b l)) (hj : os[j]? = some (iterOb b bi l.length seen)) (h1 : ρ s = .pointer (some ⟨bi, 0, none⟩)) :
    ∃ v' w', Runs P ρ ⟨d, .next s false, ty, pos, af, g⟩ w (.ok (.value v') w') ∧ ((v' = .tuple #[.bool false] ∧ (∀ m, m < l.length → m ∈ seen) ∧ St w0 w' os) ∨
      ∃ m x, m ∉ seen ∧ l[m]? = some x ∧ v' = .tuple #[.bool true, eK x.1, eV x.2] ∧ St w0 w' (os.set j (iterOb b bi l.length (seen.push m)))) := r_nextH S (S.mapAt hi) hj h1
end
theorem modify_same {α : Type} (f : α → α) {l : List α} {j : Nat} {a : α} (h : l[j]? = some a) (hf : f a = a) : l.modify j f = l := by
  apply List.ext_getElem?
  intro m
  rw [List.getElem?_modify]
  by_cases e : j = m
  · subst e; simp [h, hf]
  · simp [e]
theorem modify_congr {α : Type} {f g : α → α} {l : List α} {j : Nat} {a : α} (h : l[j]? = some a) (hf : f a = g a) : l.modify j f = l.modify j g := by
  apply List.ext_getElem?
  intro m
  rw [List.getElem?_modify, List.getElem?_modify]
  by_cases e : j = m
  · subst e; simp [h, hf]
  · simp [e]
/-- A key put in, with a first value where it was not there. -/
def mTouch {K V : Type} [DecidableEq K] (k : K) (z : V) (l : List (K × V)) : List (K × V) := match mGet k l with
  | some _ => l
  | none => l ++ [(k, z)]
theorem mGet_append {K V : Type} [DecidableEq K] (k : K) : ∀ (l r : List (K × V)), mGet k (l ++ r) = match mGet k l with
    | some x => some x
    | none => mGet k r
  | [], r => rfl
  | x :: l, r => by
    simp only [List.cons_append, mGet]
    split
    · rfl
    · exact mGet_append k l r
theorem mPut_append {K V : Type} [DecidableEq K] (k : K) (v : V) : ∀ (l r : List (K × V)), mGet k l = none → mPut k v (l ++ r) = l ++ mPut k v r
  | [], r, _ => rfl
  | x :: l, r, h => by
    unfold mGet at h
    split at h
    · cases h
    · rename_i hk
      simp only [List.cons_append, mPut]
      rw [if_neg hk, mPut_append k v l r h]
theorem mFind_pos {K V : Type} [DecidableEq K] (k : K) (eV : V → Value) {l : List (K × V)} {i : Nat} {x : V} (h : mGet k l = some x) : ∃ j, mFind k eV l i = some (j, eV x) := by
  have h2 := mFind_get k eV l i
  rw [h] at h2
  cases hm : mFind k eV l i with
  | none => rw [hm] at h2; cases h2
  | some p => obtain ⟨j, u⟩ := p; rw [hm] at h2; simp at h2; exact ⟨j, by rw [h2]⟩
theorem mGet_none_find {K V : Type} [DecidableEq K] (k : K) (eV : V → Value) {l : List (K × V)} {i : Nat} (h : mGet k l = none) : mFind k eV l i = none := by
  have h2 := mFind_get k eV l i
  rw [h] at h2
  cases hm : mFind k eV l i with
  | none => rfl
  | some p => rw [hm] at h2; cases h2
theorem mFind_last {K V : Type} [DecidableEq K] (k : K) (z : V) (eV : V → Value) : ∀ (l : List (K × V)) (i : Nat), mGet k l = none → mFind k eV (l ++ [(k, z)]) i = some (i + l.length, eV z)
  | [], i, _ => by simp [mFind]
  | x :: l, i, h => by
    unfold mGet at h
    split at h
    · cases h
    · rename_i hk
      show mFind k eV (x :: (l ++ [(k, z)])) i = _
      unfold mFind
      rw [if_neg hk, mFind_last k z eV l (i + 1) h]
      simp; omega
theorem mTouch_put {K V : Type} [DecidableEq K] (k : K) (z v : V) (l : List (K × V)) : mPut k v (mTouch k z l) = mPut k v l := by
  unfold mTouch
  cases h : mGet k l with
  | some x => rfl
  | none =>
    have h1 := mFind_none k v (fun _ : V => Value.nilFunc) l 0 (mGet_none_find k _ h)
    have h2 := mPut_append k v l [(k, z)] h
    rw [h1]
    show mPut k v (l ++ [(k, z)]) = _
    rw [h2]
    simp [mPut]
section
variable {P : Program} {ρ : Operand → Value} {w w0 : World} {d : Option Tmp} {ty : TypeId} {pos : String} {af : Array Edge} {g : Option (Nat × Bool)} {T : TypeId} {s t u : Operand} {os : List Ob} {K V : Type} [DecidableEq K] {eK : K → Value} {eV : V → Value}
theorem r_mapEntry {kT eT : TypeId} {size bytes i b : Nat} {z : Value} {l : List (K × V)} {k : K} (z0 : V) [hM : IsMap P T kT eT] [hK : MKey P kT eK] [hI : TI P eT z size bytes] (S : St w0 w os) (hi : os[i]? = some (mapOb eK eV b l)) (h1 : ρ s = .map (some b)) (h2 : ρ t = eK k) (hz : eV z0 = z) :
    ∃ v' w', Runs P ρ ⟨d, .mapEntry T s t, ty, pos, af, g⟩ w (.ok (.value v') w') ∧ ∃ (j : Nat) (y : Value), v' = .tuple #[y, .int .i64 (j : Int)] ∧ mFind k eV (mTouch k z0 l) 0 = some (j, y) ∧ St w0 w' (os.set i (mapOb eK eV b (mTouch k z0 l))) := by
  have hh := S.ok _ (mem_of_get hi)
  have hg := getObj_run (P := P) hh.2
  have hf := hK.find eV k l w
  have hc := hK.check false k w
  have hlt : b < w.heap.size := heap_lt hh.2
  obtain ⟨ti, hti, hzz, _⟩ := hI.out
  have wr : ∀ l' : List (K × V), St w0 { w with heap := w.heap.setIfInBounds b (.map (mEs eK eV l' 0).toArray l'.length) } (os.set i (mapOb eK eV b l')) := fun l' => by
    refine S.write hi ⟨rfl, rfl, rfl, by simp, fun j hj hne => ?_⟩ ⟨hh.1, by simp [hlt]⟩ (.inl rfl)
    have : b ≠ j := fun e => hne (by rw [e]; rfl)
    simp [Array.getElem?_setIfInBounds, this]
  have key : ∃ w' j y, (Instr.mapEntry T (.map (some b)) (eK k)).run P w = .ok (.tuple #[y, .int .i64 ((j : Nat) : Int)]) w' ∧ mFind k eV (mTouch k z0 l) 0 = some (j, y) ∧ St w0 w' (os.set i (mapOb eK eV b (mTouch k z0 l))) := by
    cases hm : mGet k l with
    | some x =>
      obtain ⟨j, hj⟩ := mFind_pos k eV (i := 0) hm
      have et : mTouch k z0 l = l := by unfold mTouch; rw [hm]
      rw [et]
      refine ⟨_, j, eV x, ?_, hj, wr l⟩
      unfold Instr.mapEntry
      refine (run_bind (run_underlying' hM.out)).trans ?_
      refine (run_bind hg).trans ?_
      refine (run_bind hc).trans ?_
      have hf' : (Instr.findKey kT (eK k) (mEs eK eV l 0).toArray.toList).run P w = .ok (mFind k eV l 0) w := hf
      refine (run_bind hf').trans ?_
      rw [hj]
      obtain ⟨h4, h5, ⟨e, h6, h7⟩, h8, h9⟩ := mFind_some k x eK eV l 0 j (eV x) hj
      rw [Nat.sub_zero] at h6 h8
      obtain ⟨xe, hxe⟩ : ∃ xe, l[j]? = some xe := ⟨_, List.getElem?_eq_getElem (by omega)⟩
      have h6' := h6
      rw [mEs_get, hxe] at h6'
      simp only [Option.map_some, Option.some.injEq] at h6'
      have hb : e.born = j := by rw [← h6']; simp
      have hkey : (((mEs eK eV l 0).toArray[j]?).map (·.key)).getD (eK k) = eK k := by
        rw [List.getElem?_toArray, h6]; exact h7
      have hborn : (((mEs eK eV l 0).toArray[j]?).map (fun x => (x.born : Int))).getD 0 = (j : Int) := by
        rw [List.getElem?_toArray, h6]; show ((e.born : Nat) : Int) = _; rw [hb]
      have hst : (Instr.keyThatStays (eK k) (eK k)).run P w = .ok (eK k) w := by
        unfold Instr.keyThatStays; rw [if_pos (hK.same k)]; rfl
      have e1 : ((mEs eK eV l 0).toArray.modify j fun e => { e with key := eK k }) = (mEs eK eV l 0).toArray := by
        rw [List.modify_toArray, modify_same (fun e => { e with key := eK k }) h6 (by cases e; simp at h7 ⊢; exact h7.symm)]
      show (do let key ← Instr.keyThatStays ((((mEs eK eV l 0).toArray[j]?).map (·.key)).getD (eK k)) (eK k); setObj b (.map ((mEs eK eV l 0).toArray.modify j fun e => { e with key }) l.length); pure (.tuple #[eV x, goInt ((((mEs eK eV l 0).toArray[j]?).map (fun x => (x.born : Int))).getD 0)]) : Sem Value).run P w = _
      rw [hkey, hborn]
      refine (run_bind hst).trans ?_
      rw [e1]
      refine (run_bind (setObj_run _ hh.2)).trans ?_
      rfl
    | none =>
      have et : mTouch k z0 l = l ++ [(k, z0)] := by unfold mTouch; rw [hm]
      refine ⟨_, l.length, z, ?_, ?_, wr _⟩
      · unfold Instr.mapEntry
        refine (run_bind (run_underlying' hM.out)).trans ?_
        refine (run_bind hg).trans ?_
        refine (run_bind hc).trans ?_
        have hf' : (Instr.findKey kT (eK k) (mEs eK eV l 0).toArray.toList).run P w = .ok (mFind k eV l 0) w := hf
        refine (run_bind hf').trans ?_
        rw [mGet_none_find k eV hm]
        have hzr : (zeroValue eT).run P w = .ok z w := run_zeroValue' hti hzz
        refine (run_bind hzr).trans ?_
        have e1 : (mEs eK eV l 0).toArray.push { key := eK k, val := z, born := l.length } = (mEs eK eV (mTouch k z0 l) 0).toArray := by
          rw [et, mEs_append]; simp [mEs, hz]
        have e2 : l.length + 1 = (mTouch k z0 l).length := by rw [et]; simp
        rw [← e1, ← e2]
        refine (run_bind (setObj_run _ hh.2)).trans ?_
        rfl
      · rw [et, mFind_last k z0 eV l 0 hm, hz]; simp
  obtain ⟨w', j, y, hr, hm, S'⟩ := key
  refine ⟨_, w', ⟨?_⟩, j, y, rfl, hm, S'⟩
  simp only [execOp, h1, h2]
  exact run_bind hr
theorem r_entryStore {i b j : Nat} {y : Value} {l : List (K × V)} {k : K} {v : V} (S : St w0 w os) (hi : os[i]? = some (mapOb eK eV b l)) (h1 : ρ s = .map (some b)) (h2 : ρ t = .int .i64 (j : Int)) (h3 : ρ u = eV v) (hf : mFind k eV l 0 = some (j, y)) :
    ∃ w', Runs P ρ ⟨d, .entryStore T s t u, ty, pos, af, g⟩ w (.ok .skip w') ∧ St w0 w' (os.set i (mapOb eK eV b (mPut k v l))) := by
  have hh := S.ok _ (mem_of_get hi)
  have hg := getObj_run (P := P) hh.2
  have hlt : b < w.heap.size := heap_lt hh.2
  have wr : ∀ l' : List (K × V), St w0 { w with heap := w.heap.setIfInBounds b (.map (mEs eK eV l' 0).toArray l'.length) } (os.set i (mapOb eK eV b l')) := fun l' => by
    refine S.write hi ⟨rfl, rfl, rfl, by simp, fun j hj hne => ?_⟩ ⟨hh.1, by simp [hlt]⟩ (.inl rfl)
    have : b ≠ j := fun e => hne (by rw [e]; rfl)
    simp [Array.getElem?_setIfInBounds, this]
  obtain ⟨h4, h5, ⟨e, h6, h7⟩, h8, h9⟩ := mFind_some k v eK eV l 0 j y hf
  rw [Nat.sub_zero] at h6 h8
  have hidx : (mEs eK eV l 0).toArray.findIdx? (fun e => (e.born : Int) == (j : Int)) = some j := by
    rw [List.findIdx?_toArray, List.findIdx?_eq_some_iff_getElem]
    have hl : j < (mEs eK eV l 0).length := by rw [mEs_length]; omega
    have born : ∀ m (h : m < (mEs eK eV l 0).length), ((mEs eK eV l 0)[m]).born = m := fun m h => by
      have e1 := mEs_get eK eV l 0 m
      rw [List.getElem?_eq_getElem h, List.getElem?_eq_getElem (by rw [mEs_length] at h; exact h)] at e1
      simp only [Option.map_some, Option.some.injEq] at e1
      rw [e1]; simp
    refine ⟨hl, ?_, fun m hm => ?_⟩
    · rw [born]; simp
    · rw [born]; simp; omega
  have e1 : ((mEs eK eV l 0).toArray.modify j fun e => { e with val := eV v }) = (mEs eK eV (mPut k v l) 0).toArray := by
    rw [List.modify_toArray, h8, modify_congr (g := fun e => { e with key := eK k, val := eV v }) h6 (by cases e; simp at h7 ⊢; exact h7)]
  refine ⟨_, ⟨?_⟩, wr (mPut k v l)⟩
  simp only [execOp, h1, h2, h3]
  refine run_bind (a := ()) ?_
  unfold Instr.entryStore
  refine (run_bind hg).trans ?_
  have ha : (asInt (.int .i64 (j : Int)) : Sem Int).run P w = .ok (j : Int) w := rfl
  refine (run_bind ha).trans ?_
  rw [hidx, ← e1, h9]
  exact setObj_run _ hh.2
end
section
variable {P : Program} {ρ : Operand → Value} {w w0 : World} {d : Option Tmp} {ty : TypeId} {pos : String} {af : Array Edge} {g : Option (Nat × Bool)} {T : TypeId} {s t u : Operand} {os : List Ob} {K V : Type} [DecidableEq K] {eK : K → Value} {eV : V → Value}
omit [DecidableEq K] in
theorem mEs_find : ∀ (l : List (K × V)) (i m : Nat) {x : K × V}, l[m]? = some x → (mEs eK eV l i).find? (fun e => e.born == i + m) = some { key := eK x.1, val := eV x.2, born := i + m }
  | [], _, _, _, h => by simp at h
  | y :: r, i, 0, x, h => by
    simp at h; subst h
    simp [mEs]
  | y :: r, i, m + 1, x, h => by
    have ih := mEs_find r (i + 1) m (x := x) (by simpa using h)
    rw [show i + 1 + m = i + (m + 1) by omega] at ih
    unfold mEs
    rw [List.find?_cons_of_neg (by simp)]
    exact ih
omit [DecidableEq K] in
/-- The entry to which an iterator has come. -/
theorem r_entryH {j b bi m : Nat} {l : List (K × V)} {seen : Array Nat} {x : K × V} (S : St w0 w os) (hh : MapAt w b eK eV l) (hj : os[j]? = some (iterOb b bi l.length (seen.push m))) (hx : l[m]? = some x) (h1 : ρ s = .pointer (some ⟨bi, 0, none⟩)) :
    Runs P ρ ⟨d, .entry s, ty, pos, af, g⟩ w (.ok (.value (.tuple #[eK x.1, eV x.2])) w) := by
  have hit := S.ok _ (mem_of_get hj)
  have hg := getObj_run (P := P) hh
  have hgi : (getObj bi).run P w = .ok (.mapIter (some b) l.length (seen.push m) l.length) w := by simp [getObj, Sem.run, hit.2]
  have hf := mEs_find (eK := eK) (eV := eV) l 0 m hx
  simp only [Nat.zero_add] at hf
  refine ⟨?_⟩
  simp only [execOp, h1]
  refine run_bind (a := Value.tuple #[eK x.1, eV x.2]) ?_
  unfold Instr.entry
  refine (run_bind hgi).trans ?_
  simp only [Array.back?_push]
  refine (run_bind hg).trans ?_
  simp [hf]
/-- What a map has for a key. -/
theorem r_lookup1D {kT eT : TypeId} {size bytes b : Nat} {z : Value} {l : List (K × V)} {k : K} (v0 : V) [hM : IsMap P T kT eT] [hK : MKey P kT eK] [hI : TI P eT z size bytes] (hz : eV v0 = z) (hh : MapAt w b eK eV l) (h1 : ρ s = .map (some b)) (h2 : ρ t = eK k) :
    Runs P ρ ⟨d, .lookup T s t false, ty, pos, af, g⟩ w (.ok (.value (eV ((mGet k l).getD v0))) w) := by
  have := r_lookup1H (P := P) (d := d) (ty := ty) (pos := pos) (af := af) (g := g) (T := T) hh h1 h2 (hI := hI)
  subst hz
  cases e : mGet k l with
  | none => rw [e] at this; exact this
  | some x => rw [e] at this; exact this
theorem r_lookupN {kT eT : TypeId} {size bytes b : Nat} {z : Value} {l : List (K × V)} {k : K} [hM : IsMap P T kT eT] [hK : MKey P kT eK] [hI : TI P eT z size bytes] (hh : MapAt w b eK eV l) (hn : mGet k l = none) (h1 : ρ s = .map (some b)) (h2 : ρ t = eK k) :
    Runs P ρ ⟨d, .lookup T s t true, ty, pos, af, g⟩ w (.ok (.value (.tuple #[z, .bool false])) w) := by
  have := r_lookupH (P := P) (d := d) (ty := ty) (pos := pos) (af := af) (g := g) (T := T) hh h1 h2 (hI := hI)
  rw [hn] at this; exact this
theorem r_lookupS {kT eT : TypeId} {size bytes b : Nat} {z : Value} {l : List (K × V)} {k : K} {v : V} [hM : IsMap P T kT eT] [hK : MKey P kT eK] [hI : TI P eT z size bytes] (hh : MapAt w b eK eV l) (hn : mGet k l = some v) (h1 : ρ s = .map (some b)) (h2 : ρ t = eK k) :
    Runs P ρ ⟨d, .lookup T s t true, ty, pos, af, g⟩ w (.ok (.value (.tuple #[eV v, .bool true])) w) := by
  have := r_lookupH (P := P) (d := d) (ty := ty) (pos := pos) (af := af) (g := g) (T := T) hh h1 h2 (hI := hI)
  rw [hn] at this; exact this
end
end Go.Gx
