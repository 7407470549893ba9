/-
  Operations that change memory.
-/
import Derived.Test.YteplelijhkmbkaaDoorGxMem
import Derived.Maps.AppendAt
import Derived.Laws.CopyRow
namespace Go.Gx
open Go Go.RowKit
set_option linter.unusedSimpArgs false
set_option linter.unusedVariables false

theorem Enters.of {P : Program} {f : FuncId} {fn : Func} (hf : P.funcs[f]? = some fn) (hb : fn.body.isNone = false) (hn : (fn.name == "runtime.NumGoroutine") = false) : Enters P f := ⟨fun args w => by
  unfold callFunc
  refine (Sem.run_bind _ _ _ _).trans ?_
  show (Result.ok P w).andThen _ = _
  simp only [Result.andThen_ok, hf, hb, hn]
  rfl⟩

section
variable {P : Program} {n : Nat} {ops : Array Oper} {Q : Post} {σ : Nat → Value} {w w' w0 : World} {o : Oper} {rest : List Oper} {os : List Ob}

theorem st_valE {R : Value → World → Prop} (hw : wantS o ops n σ = true) (h : ∃ v w', Runs P (opv (cut n σ)) o w (.ok (.value v) w') ∧ R v w')
    (k : ∀ v w', R v w' → wl P n ops Q rest (updO σ o.dst v) w') : wl P n ops Q (o :: rest) σ w :=
  let ⟨v, w', h1, h2⟩ := h; st_val hw h1 (k v w' h2)
theorem st_skipE {R : World → Prop} (hw : wantS o ops n σ = true) (h : ∃ w', Runs P (opv (cut n σ)) o w (.ok .skip w') ∧ R w')
    (k : ∀ w', R w' → wl P n ops Q rest (updO σ o.dst undef) w') : wl P n ops Q (o :: rest) σ w :=
  let ⟨w', h1, h2⟩ := h; st_skip hw h1 (k w' h2)
end

/-- A type's zero value, its cells and bytes. -/
class TI (P : Program) (T : TypeId) (z : outParam Value) (size bytes : outParam Nat) : Prop where out : ∃ i, P.info? T = some i ∧ i.zero = some z ∧ i.size = size ∧ i.bytes = bytes
theorem TI.of {P : Program} {T : TypeId} {z : Value} {size bytes : Nat} (h : (P.info? T).map (fun i => (i.zero, i.size, i.bytes)) = some (some z, size, bytes)) : TI P T z size bytes := by
  cases hi : P.info? T with
  | none => rw [hi] at h; cases h
  | some i => rw [hi] at h; simp at h; exact ⟨⟨i, hi, h.1, h.2.1, h.2.2⟩⟩

section
variable {P : Program} {ρ : Operand → Value} {w w0 : World} {d : Option Tmp} {ty : TypeId} {pos : String} {af : Array Edge} {g : Option (Nat × Bool)} {T : TypeId} {s t : Operand} {os : List Ob}

theorem run_newVar' {v : Value} : (newVar T v).run P w = .ok ⟨w.heap.size, 0, none⟩ (w.alloc (.cells v.cells T)) := rfl
theorem run_newRow' {cs : Array Value} : (newRow T cs).run P w = .ok ⟨w.heap.size, 0, none⟩ (w.alloc (.cells cs T)) := rfl
theorem run_typeInfo' {i : TypeInfo} (hi : P.info? T = some i) : (typeInfo T).run P w = .ok i w := by
  unfold typeInfo; refine (run_bind (a := P) rfl).trans ?_; rw [hi]; rfl
theorem run_zeroValue' {i : TypeInfo} {z : Value} (hi : P.info? T = some i) (hz : i.zero = some z) : (zeroValue T).run P w = .ok z w := by
  unfold zeroValue; refine (run_bind (run_typeInfo' hi)).trans ?_; rw [hz]; rfl
theorem run_sizeOf' {i : TypeInfo} (hi : P.info? T = some i) : (sizeOf T).run P w = .ok i.size w := by
  unfold sizeOf; refine (run_bind (run_typeInfo' hi)).trans ?_; rfl
theorem below_alloc (w : World) (o : Obj) : Below w.heap.size w (w.alloc o) := (Below.refl _ _).alloc (Nat.le_refl _) o

theorem r_alloc {z : Value} {size bytes : Nat} [hI : TI P T z size bytes] (S : St w0 w os) :
    ∃ v w', Runs P ρ ⟨d, .alloc T, ty, pos, af, g⟩ w (.ok (.value v) w') ∧ ∃ b, v = .pointer (some ⟨b, 0, none⟩) ∧ Below w.heap.size w w' ∧ St w0 w' (os ++ [.var b T z.cells.toList]) := by
  obtain ⟨i, hi, hz, _, _⟩ := hI.out
  refine ⟨_, w.alloc (.cells z.cells T), ⟨?_⟩, w.heap.size, rfl, below_alloc _ _, S.new (below_alloc _ _) ⟨Nat.le_refl _, by simpa using heap_alloc_new w _⟩⟩
  simp only [execOp, Instr.alloc]
  refine run_bind (a := Value.pointer (some ⟨w.heap.size, 0, none⟩)) ?_
  exact run_bind (run_zeroValue' hi hz)

theorem r_box {v : Value} (S : St w0 w os) (h1 : ρ s = v) :
    ∃ v' w', Runs P ρ ⟨d, .box T s, ty, pos, af, g⟩ w (.ok (.value v') w') ∧ ∃ b, v' = .pointer (some ⟨b, 0, none⟩) ∧ Below w.heap.size w w' ∧ St w0 w' (os ++ [.var b T v.cells.toList]) := by
  refine ⟨_, w.alloc (.cells v.cells T), ⟨?_⟩, w.heap.size, rfl, below_alloc _ _, S.new (below_alloc _ _) ⟨Nat.le_refl _, by simpa using heap_alloc_new w _⟩⟩
  simp only [execOp, h1, Instr.box]
  rfl

def splice (cs : List Value) (o : Nat) (vs : List Value) : List Value := cs.take o ++ vs ++ cs.drop (o + vs.length)

theorem setRow_size (w : World) (g : Nat) (cs : Array Value) : (w.setRow g cs).heap.size = w.heap.size := by simp [World.setRow]
theorem setRow_grown (w : World) (g : Nat) (cs : Array Value) : w.grownBy (w.setRow g cs) (some g) :=
  ⟨rfl, rfl, rfl, by rw [setRow_size]; exact Nat.le_refl _, fun k _ hk => setRow_other w g k cs (fun e => hk (by rw [e]))⟩

theorem r_storeVar {b o i size : Nat} {T' : TypeId} {cs : List Value} {v : Value} {ag : Bool} [hS : TF P T ag size] (S : St w0 w os) (hi : os[i]? = some (.var b T' cs)) (h1 : ρ s = .pointer (some ⟨b, o, none⟩)) (h2 : ρ t = v)
    (hv : v.cells.size = size) (hfit : o + size ≤ cs.length) (h1c : ∀ u ∈ v.cells.toList, u.oneCell' = true) :
    ∃ w', Runs P ρ ⟨d, .store T s t, ty, pos, af, g⟩ w (.ok .skip w') ∧ St w0 w' (os.set i (.var b T' (splice cs o v.cells.toList))) := by
  have hh := (S.ok _ (mem_of_get hi))
  have hst := run_storeCells_at P b o T' v.cells.toList 0 cs.toArray w hh.2 (by simp; omega) h1c
  simp only [Nat.add_zero] at hst
  have hrun : Runs P ρ ⟨d, .store T s t, ty, pos, af, g⟩ w (.ok .skip (w.setRow b (cs.take o ++ v.cells.toList ++ cs.drop (o + v.cells.toList.length)).toArray)) := ⟨by
    simp only [execOp, h1, h2, Instr.storeAt, Instr.sureAddr, storeVar]
    have hne : ¬ (v.cells.size ≠ size) := by omega
    refine run_bind (a := ()) ?_
    refine (run_bind (a := (⟨b, o, none⟩ : Addr)) rfl).trans ?_
    refine (run_bind (hS.sizeOf w)).trans ?_
    rw [if_neg hne]
    exact hst⟩
  refine ⟨_, hrun, ?_⟩
  refine S.write hi (setRow_grown w b _) ⟨hh.1, setRow_heap w b _ _ T' (0, 0) hh.2⟩ (.inl rfl)

theorem r_storeRow {b o i size sz m cap : Nat} {T' : TypeId} {xs : List Value} {v : Value} {ag : Bool} [hS : TF P T ag size] (S : St w0 w os) (hi : os[i]? = some (.row (.slice (some ⟨b, 0, none⟩) m cap) T' sz m xs)) (h1 : ρ s = .pointer (some ⟨b, o, none⟩)) (h2 : ρ t = v)
    (hv : v.cells.size = size) (hfit : o + size ≤ xs.length) (h1c : ∀ u ∈ v.cells.toList, u.oneCell' = true) :
    ∃ w', Runs P ρ ⟨d, .store T s t, ty, pos, af, g⟩ w (.ok .skip w') ∧ St w0 w' (os.set i (.row (.slice (some ⟨b, 0, none⟩) m cap) T' sz m (splice xs o v.cells.toList))) := by
  have hh : w.ownsRow w0.heap.size T' sz (.slice (some ⟨b, 0, none⟩) m cap) m xs := (S.ok _ (mem_of_get hi))
  obtain ⟨hl, h⟩ := hh
  rcases h with ⟨h, _⟩ | ⟨g', cap', cur, hv', hb, hg, hn, hm, hcs, htk⟩
  · cases h
  · cases hv'
    have hcur : xs.length ≤ cur.size := by rw [hl, hcs]; exact Nat.mul_le_mul_right _ hn
    have hst := run_storeCells_at P b o T' v.cells.toList 0 cur w hg (by simp; omega) h1c
    simp only [Nat.add_zero] at hst
    have hrun : Runs P ρ ⟨d, .store T s t, ty, pos, af, g⟩ w (.ok .skip (w.setRow b (cur.toList.take o ++ v.cells.toList ++ cur.toList.drop (o + v.cells.toList.length)).toArray)) := ⟨by
      simp only [execOp, h1, h2, Instr.storeAt, Instr.sureAddr, storeVar]
      have hne : ¬ (v.cells.size ≠ size) := by omega
      refine run_bind (a := ()) ?_
      refine (run_bind (a := (⟨b, o, none⟩ : Addr)) rfl).trans ?_
      refine (run_bind (hS.sizeOf w)).trans ?_
      rw [if_neg hne]
      exact hst⟩
    refine ⟨_, hrun, ?_⟩
    refine S.write hi (setRow_grown w b _) ⟨?_, .inr ⟨b, cap, _, rfl, hb, setRow_heap w b _ _ T' (0, 0) hg, hn, hm, ?_, ?_⟩⟩ (.inl rfl)
    · rw [← hl]; simp [splice]; omega
    · rw [← hcs]; simp; omega
    · have hlv : v.cells.toList.length = size := by simpa using hv
      have hxs : m * sz = xs.length := hl.symm
      rw [hxs] at htk ⊢
      simp only [splice]
      have hq : ∀ k, k < xs.length → cur.toList[k]? = xs[k]? := fun k hk => by
        have h := congrArg (fun l : List Value => l[k]?) htk
        simpa [List.getElem?_take, hk] using h
      apply List.ext_getElem?
      intro j
      simp only [List.getElem?_take, List.getElem?_append, List.length_append, List.length_take, List.getElem?_drop, Array.length_toList, hlv]
      have : xs.length ≤ cur.size := hcur
      repeat' split
      all_goals first | rfl | omega | (congr 1; omega) | skip
      · exact hq j (by omega)
      · rw [show o + size + (j - (min o cur.size + size)) = j by omega, show o + size + (j - (min o xs.length + size)) = j by omega]; exact hq j (by omega)
      · exact (List.getElem?_eq_none (by omega)).symm

theorem foldl_set (l : List Value) : ∀ (cs : Array Value) (k : Nat), k + l.length ≤ cs.size →
    (l.zipIdx k).foldl (fun cs (x : Value × Nat) => cs.setIfInBounds x.2 x.1) cs = (cs.toList.take k ++ l ++ cs.toList.drop (k + l.length)).toArray := by
  induction l with
  | nil => intro cs k hk; simp
  | cons x r ih =>
    intro cs k hk
    rw [List.zipIdx_cons, List.foldl_cons, ih _ _ (by simp at hk ⊢; omega)]
    congr 1
    apply List.ext_getElem?
    intro q
    simp only [Array.toList_setIfInBounds, List.getElem?_append, List.length_append, List.length_take, List.getElem?_take, List.length_set, Array.length_toList, List.getElem?_set, List.getElem?_drop, List.length_cons, List.getElem?_cons]
    simp at hk
    repeat' split
    all_goals first | rfl | omega | (congr 1; omega) | (simp; try omega)

def parts (k : Nat) : List Value → List (Nat × Value)
  | [] => []
  | v :: r => (k, v) :: parts (k + 1) r
def cellsOf (vs : List Value) : List Value := vs.flatMap fun v => v.cells.toList

theorem fill_parts (size : Nat) (vs : List Value) : ∀ (k : Nat) (cs : Array Value), (∀ v ∈ vs, v.cells.size = size) → (k + vs.length) * size ≤ cs.size →
    Instr.fill (fun j => some (j * size, size)) cs (parts k vs) = some (cs.toList.take (k * size) ++ cellsOf vs ++ cs.toList.drop ((k + vs.length) * size)).toArray := by
  induction vs with
  | nil => intro k cs _ _; simp [parts, Instr.fill, cellsOf]
  | cons v r ih =>
    intro k cs hv hs
    have h1 : v.cells.size = size := hv v (List.mem_cons_self ..)
    have hle : (k + 1) * size ≤ (k + (v :: r).length) * size := Nat.mul_le_mul_right _ (by simp)
    have hk1 : (k + 1) * size = k * size + size := by rw [Nat.add_mul, Nat.one_mul]
    have hfold : v.cells.zipIdx.foldl (fun cs (x : Value × Nat) => cs.setIfInBounds (k * size + x.2) x.1) cs = (cs.toList.take (k * size) ++ v.cells.toList ++ cs.toList.drop ((k + 1) * size)).toArray := by
      have e : (v.cells.toList.zipIdx.map fun x : Value × Nat => (x.1, k * size + x.2)) = v.cells.toList.zipIdx (k * size) := by
        apply List.ext_getElem?
        intro j
        simp [List.getElem?_zipIdx, Function.comp_def]
      rw [← Array.foldl_toList, Array.toList_zipIdx]
      have := foldl_set v.cells.toList cs (k * size) (by simp [h1]; omega)
      rw [← e, List.foldl_map] at this
      rw [this, hk1, Array.length_toList, h1]
    have hr : (k + (r.length + 1)) * size ≤ cs.size := by simpa using hs
    have e3 : (k + 1 + r.length) * size = (k + (r.length + 1)) * size := by rw [show k + 1 + r.length = k + (r.length + 1) by omega]
    have hle' : (k + 1) * size ≤ (k + (r.length + 1)) * size := by simpa using hle
    have hsz' : (k + 1 + r.length) * size ≤ (cs.toList.take (k * size) ++ v.cells.toList ++ cs.toList.drop ((k + 1) * size)).toArray.size := by
      rw [e3]; simp only [List.size_toArray, List.length_append, List.length_take, List.length_drop, Array.length_toList, h1]; omega
    unfold parts Instr.fill
    simp only
    rw [if_neg (by simp [h1]; omega), hfold, ih (k + 1) _ (fun u hu => hv u (List.mem_cons_of_mem _ hu)) hsz']
    have hkl : (k * size) ≤ cs.size := by omega
    congr 2
    simp only [cellsOf, List.flatMap_cons, e3, List.length_cons]
    have hlen : (cs.toList.take (k * size) ++ v.cells.toList).length = (k + 1) * size := by simp [h1]; omega
    have hge : (k + 1) * size ≤ (k + (r.length + 1)) * size := by simpa using hle
    rw [show (cs.toList.take (k * size) ++ v.cells.toList ++ cs.toList.drop ((k + 1) * size)).take ((k + 1) * size) = cs.toList.take (k * size) ++ v.cells.toList by rw [← hlen, List.take_left' rfl]]
    rw [show (cs.toList.take (k * size) ++ v.cells.toList ++ cs.toList.drop ((k + 1) * size)).drop ((k + (r.length + 1)) * size) = cs.toList.drop ((k + (r.length + 1)) * size) by
      rw [List.drop_append, hlen, List.drop_eq_nil_of_le (by rw [hlen]; exact hge), List.nil_append, List.drop_drop]; congr 1; omega]
    simp [List.append_assoc]

/-- A row made by a literal. -/
theorem r_lit {e : TypeId} {size bytes : Nat} {z : Value} {ps : Array (Nat × Operand)} {vs : List Value} {m : Nat} [hT : IsSlice P T e] [hI : TI P e z size bytes] (S : St w0 w os) (hp : (ps.map fun (i, x) => (i, ρ x)) = (parts 0 vs).toArray) (hm : m = vs.length)
    (hz : z.cells.size = size) (h0 : 0 < m * size) (hb : m * size ≤ 16777216)
    (hv : ∀ v ∈ vs, v.cells.size = size) :
    ∃ v' w', Runs P ρ ⟨d, .buildSlice T m ps, ty, pos, af, g⟩ w (.ok (.value v') w') ∧ ∃ b, v' = .slice (some ⟨b, 0, none⟩) m m ∧ Below w.heap.size w w' ∧ CellsAt w' ⟨b, 0, none⟩ (cellsOf vs) ∧ St w0 w' (os ++ [.row v' e size m (cellsOf vs)]) := by
  obtain ⟨i, hi, hz', hs, _⟩ := hI.out
  subst hs
  subst hm
  have hsz : (cellsOf vs).length = vs.length * i.size := by
    clear hp h0 hb
    induction vs with
    | nil => simp [cellsOf]
    | cons v r ih =>
      have h1 := ih (fun u hu => hv u (List.mem_cons_of_mem _ hu))
      have h2 := hv v (List.mem_cons_self ..)
      simp only [cellsOf, List.flatMap_cons, List.length_append, List.length_cons, Array.length_toList] at *
      rw [h1, h2, Nat.add_mul]; omega
  have hfill : Instr.fill (fun j => some (j * i.size, i.size)) ((Array.range (vs.length * i.size)).map (z.cells[· % z.cells.size]!)) (parts 0 vs) = some (cellsOf vs).toArray := by
    rw [fill_parts i.size vs 0 _ hv (by simp)]
    simp
  refine ⟨_, w.alloc (.cells (cellsOf vs).toArray e), ⟨?_⟩, w.heap.size, rfl, below_alloc _ _, ?_, ?_⟩
  · have hle : ¬ (vs.length * i.size > 2 ^ 24) := by omega
    have hne : ¬ (vs.length * i.size = 0) := by omega
    simp only [execOp, Instr.buildSlice]
    rw [hp]
    refine run_bind (a := Value.slice (some ⟨w.heap.size, 0, none⟩) vs.length vs.length) ?_
    refine (run_bind (run_underlying' hT.out)).trans ?_
    refine (run_bind (run_sizeOf' hi)).trans ?_
    simp only [hle, if_false, hne]
    refine (run_bind (run_zeroValue' hi hz')).trans ?_
    refine (run_bind (a := z.cells) rfl).trans ?_
    simp only [hfill]
    rfl
  · refine ⟨by simp, rfl, fun j u hj => ?_⟩
    have : (⟨w.heap.size, 0, none⟩ : Addr).add j = ⟨w.heap.size, j, none⟩ := by unfold Addr.add; split <;> simp_all
    rw [this, World.cell?_alloc_new]; simpa using hj
  · refine S.new (below_alloc _ _) ?_
    by_cases hlen : vs.length ≤ maxLen
    · have := World.ownsRow_lit (base := w.heap.size) (e := e) (size := i.size) w (cellsOf vs).toArray vs.length (Nat.le_refl _) hlen (by simpa using hsz)
      show World.ownsRow _ _ _ _ _ _ _
      simpa using this
    · exfalso
      have : vs.length ≤ vs.length * i.size := Nat.le_mul_of_pos_right _ (by rcases Nat.eq_zero_or_pos i.size with h | h; rw [h] at h0; omega; exact h)
      simp [maxLen] at hlen; omega

/-- make([]T, n), n known. -/
theorem r_make {e : TypeId} {size bytes : Nat} {z : Value} {m : Nat} {k k' : IntKind} [hT : IsSlice P T e] [hI : TI P e z size bytes] (S : St w0 w os)
    (h1 : ρ s = .int k m) (h2 : ρ t = .int k' m) (hb : bytes * m ≤ 281474976710656) (h63 : m ≤ 9223372036854775807) :
    ∃ v' w', Runs P ρ ⟨d, .makeSlice T s t, ty, pos, af, g⟩ w (.ok (.value v') w') ∧ ∃ b, v' = .slice (some ⟨b, 0, none⟩) m m ∧ Below w.heap.size w w' ∧ St w0 w' (os ++ [.row v' e size m (madeCells z.cells (m * size)).toList]) := by
  obtain ⟨i, hi, hz', hs, hby⟩ := hI.out
  subst hby
  obtain ⟨w', hr, how, hg⟩ := run_make_full (P := P) w w.heap.size T e i z size hT.out hi hz' hs k k' m hb (by simpa [maxLen] using h63) (Nat.le_refl _)
  have hbl : Below w.heap.size w w' := (Below.refl _ _).grown hg (Nat.le_refl _) (fun k h => by cases h)
  exact ⟨_, w', ⟨by simp only [execOp, h1, h2]; exact run_bind hr⟩, w.heap.size, rfl, hbl, S.new hbl how⟩

/-- append(v, x..): v a row of the call's own. -/
theorem r_append {e : TypeId} {size bytes : Nat} {z v : Value} {m i : Nat} {xs news : List Value} {ad : Addr} {q c : Nat} [hT : IsSlice P T e] [hI : TI P e z size bytes] (S : St w0 w os) (hi : os[i]? = some (.row v e size m xs))
    (hz : z.cells.size = size) (h0 : 0 < size)
    (h1 : ρ s = v) (h2 : ρ t = .slice (some ad) q c) (hc : CellsAt w ad news) (hl : news.length = q * size) (h1c : ∀ u ∈ news, u.oneCell' = true)
    (h63 : m + q ≤ 9223372036854775807) (hb : (m + q) * bytes ≤ 140737488355328) :
    ∃ v' w', Runs P ρ ⟨d, .call { callee := .builtin .append, args := #[s, t], argTypes := #[T, T] }, ty, pos, af, g⟩ w (.ok (.value v') w') ∧ w.grownBy w' v.ownBlock ∧ St w0 w' (os.set i (.row v' e size (m + q) (xs ++ news))) := by
  obtain ⟨ti, hi', hz', hs, hby⟩ := hI.out
  have how : w.ownsRow w0.heap.size e size v m xs := S.ok _ (mem_of_get hi)
  obtain ⟨v', w', hr, how', hg, _, hbk⟩ := run_append_own_at (P := P) w w0.heap.size T ty e ti z size bytes hT.out hi' hz' hs hby hz h0 v m xs how ad q c news hl hc.2.2 h1c (by simpa [maxLen] using h63) hb S.below.size
  refine ⟨v', w', ⟨?_⟩, hg, S.write hi hg how' ?_⟩
  · simp only [execOp, resolve, List.map_toArray, List.map_cons, List.map_nil, h1, h2]
    simp only [invoke, builtin]
    refine (run_bind (a := { target := _, args := _ }) rfl).trans ?_
    exact run_bind hr
  · rcases hbk with h | h
    · exact .inl h
    · exact .inr (.inr ⟨_, h, Nat.le_refl _⟩)

/-! ### Loads of what is told -/
theorem r_loadElem {α : Type} [Inhabited α] {D : Flat α} {v : Value} {l : List α} {i : Int} [TF P T true D.sz] (hR : Rd D.ty w v l) (h1 : ρ s = .pointer (some (elemAddr v D.sz i.toNat))) (h0 : 0 ≤ i) (hl : i < l.length) :
    Runs P ρ ⟨d, .load T s, ty, pos, af, g⟩ w (.ok (.value (.agg (D.enc (nth l i)).toArray)) w) := r_loadA h1 (D.len _) (hR.flat h0 hl)
theorem r_loadElem1 {α : Type} [Inhabited α] {D : Flat α} {v u : Value} {l : List α} {i : Int} [TF P T false 1] (hR : Rd D.ty w v l) (h1 : ρ s = .pointer (some (elemAddr v D.sz i.toNat))) (h0 : 0 ≤ i) (hl : i < l.length) (hv : (D.enc (nth l i))[0]? = some u) :
    Runs P ρ ⟨d, .load T s, ty, pos, af, g⟩ w (.ok (.value u) w) := r_load h1 (by have := (hR.flat h0 hl).2.2 0 u hv; rwa [add_zero] at this)
theorem r_loadElemF {α : Type} [Inhabited α] {D : Flat α} {v u : Value} {l : List α} {i : Int} {off : Nat} [TF P T false 1] (hR : Rd D.ty w v l) (h1 : ρ s = .pointer (some ((elemAddr v D.sz i.toNat).add off))) (h0 : 0 ≤ i) (hl : i < l.length) (hv : (D.enc (nth l i))[off]? = some u) :
    Runs P ρ ⟨d, .load T s, ty, pos, af, g⟩ w (.ok (.value u) w) := r_load h1 ((hR.flat h0 hl).2.2 off u hv)
theorem r_loadElemFA {α : Type} [Inhabited α] {D : Flat α} {v : Value} {l : List α} {i : Int} {off sz : Nat} [TF P T true sz] (hR : Rd D.ty w v l) (h1 : ρ s = .pointer (some ((elemAddr v D.sz i.toNat).add off))) (h0 : 0 ≤ i) (hl : i < l.length) (hs : off + sz ≤ D.sz) :
    Runs P ρ ⟨d, .load T s, ty, pos, af, g⟩ w (.ok (.value (.agg (((D.enc (nth l i)).drop off).take sz).toArray)) w) := r_loadA h1 (by simp [D.len]; omega) (((hR.flat h0 hl).drop off).take sz)
theorem r_loadVar {i b o : Nat} {T' : TypeId} {cs : List Value} {u : Value} [TF P T false 1] (S : St w0 w os) (hi : os[i]? = some (.var b T' cs)) (h1 : ρ s = .pointer (some ⟨b, o, none⟩)) (hv : cs[o]? = some u) :
    Runs P ρ ⟨d, .load T s, ty, pos, af, g⟩ w (.ok (.value u) w) := r_load h1 (by have := (S.var hi).2.2 o u hv; rwa [add_lit, Nat.zero_add] at this)
theorem r_loadVarA {i b o sz : Nat} {T' : TypeId} {cs cs' : List Value} [TF P T true sz] (S : St w0 w os) (hi : os[i]? = some (.var b T' cs)) (h1 : ρ s = .pointer (some ⟨b, o, none⟩)) (hc : (cs.drop o).take sz = cs') (hl : cs'.length = sz) :
    Runs P ρ ⟨d, .load T s, ty, pos, af, g⟩ w (.ok (.value (.agg cs'.toArray)) w) := r_loadA h1 hl (by subst hc; have := ((S.var hi).drop o).take sz; rwa [add_lit, Nat.zero_add] at this)
/-- Addresses that are written out, and those of elements. -/
theorem r_fieldAddrL {b o j off : Nat} [hF : FA P T j off] (h1 : ρ s = .pointer (some ⟨b, o, none⟩)) : Runs P ρ ⟨d, .fieldAddr T s j, ty, pos, af, g⟩ w (.ok (.value (.pointer (some ⟨b, o + off, none⟩))) w) := by
  have := r_fieldAddr (P := P) (w := w) (d := d) (ty := ty) (pos := pos) (af := af) (g := g) h1 (hF := hF); rwa [add_lit] at this
theorem r_fieldAddrA {a : Addr} {o j off : Nat} [hF : FA P T j off] (h1 : ρ s = .pointer (some (a.add o))) : Runs P ρ ⟨d, .fieldAddr T s j, ty, pos, af, g⟩ w (.ok (.value (.pointer (some (a.add (o + off))))) w) := by
  have := r_fieldAddr (P := P) (w := w) (d := d) (ty := ty) (pos := pos) (af := af) (g := g) h1 (hF := hF); rwa [add_add] at this
theorem r_indexAddrArrL {b o n sz : Nat} {k : IntKind} {i : Int} {e : TypeId} {ag : Bool} [hT : IsArr P T n e] [hS : TF P e ag sz] (h1 : ρ s = .pointer (some ⟨b, o, none⟩)) (h2 : ρ t = .int k i)
    (h0 : 0 ≤ i) (hl : i < n) : Runs P ρ ⟨d, .indexAddr T s t, ty, pos, af, g⟩ w (.ok (.value (.pointer (some ⟨b, o + i.toNat * sz, none⟩))) w) := by
  have := r_indexAddrArr (P := P) (w := w) (d := d) (ty := ty) (pos := pos) (af := af) (g := g) h1 h2 h0 hl (hT := hT) (hS := hS); rwa [add_lit] at this
theorem r_indexAddrArrA {a : Addr} {o n sz : Nat} {k : IntKind} {i : Int} {e : TypeId} {ag : Bool} [hT : IsArr P T n e] [hS : TF P e ag sz] (h1 : ρ s = .pointer (some (a.add o))) (h2 : ρ t = .int k i)
    (h0 : 0 ≤ i) (hl : i < n) : Runs P ρ ⟨d, .indexAddr T s t, ty, pos, af, g⟩ w (.ok (.value (.pointer (some (a.add (o + i.toNat * sz))))) w) := by
  have := r_indexAddrArr (P := P) (w := w) (d := d) (ty := ty) (pos := pos) (af := af) (g := g) h1 h2 h0 hl (hT := hT) (hS := hS); rwa [add_add] at this

/-! ### Cuts -/
def sliceV : Value → Nat → Nat → Nat → Value
  | .slice A _ c, lo, hi, sz => .slice (if c = lo then A else A.map (·.add (lo * sz))) (hi - lo) (c - lo)
  | v, _, _, _ => v
theorem Rd.cut {α : Type} {D : Ty α} {v : Value} {l : List α} (h : Rd D w v l) {lo hi : Nat} (h1 : lo ≤ hi) (h2 : hi ≤ l.length) : Rd D w (sliceV v lo hi D.sz) ((l.take hi).drop lo) := by
  obtain ⟨A, c, rfl, hc, h⟩ := h
  have hlen : ((l.take hi).drop lo).length = hi - lo := by simp; omega
  refine ⟨_, c - lo, by rw [hlen]; rfl, by omega, ?_⟩
  rcases h with ⟨h, hA⟩ | ⟨a, rfl, hs, hlt, h⟩
  · subst h
    have : lo = 0 := by simp at h2; omega
    subst this
    refine .inl ⟨by simp, fun hn => ?_⟩
    by_cases e : c = 0
    · simp [e]
    · rw [if_neg e] at hn; have := hA (by simpa using hn); omega
  · by_cases e : c = lo
    · refine .inl ⟨List.eq_nil_of_length_eq_zero (by omega), fun hn => ?_⟩
      rw [if_pos e] at hn; cases hn
    · rw [if_neg e]
      refine .inr ⟨a.add (lo * D.sz), rfl, by unfold Addr.add; split <;> simp [hs], by rw [add_block]; exact hlt, fun j x hj => ?_⟩
      rw [List.getElem?_drop, List.getElem?_take] at hj
      split at hj
      · obtain ⟨cs, hR, hcs⟩ := h (lo + j) x hj
        refine ⟨cs, hR, fun i u hu => ?_⟩
        rw [add_add, show lo * D.sz + (j * D.sz + i) = (lo + j) * D.sz + i by rw [Nat.add_mul]; omega]
        exact hcs i u hu
      · cases hj
theorem r_slice {α : Type} {D : Ty α} {v : Value} {l : List α} {e : TypeId} {ag : Bool} {a b : Operand} {k k' : IntKind} {lo hi : Int} [hT : IsSlice P T e] [hS : TF P e ag D.sz] (hR : Rd D w v l) (h1 : ρ s = v) (h2 : ρ a = .int k lo) (h3 : ρ b = .int k' hi)
    (h0 : 0 ≤ lo) (h4 : lo ≤ hi) (h5 : hi ≤ l.length) : Runs P ρ ⟨d, .slice T s (some a) (some b) none, ty, pos, af, g⟩ w (.ok (.value (sliceV v lo.toNat hi.toNat D.sz)) w) := by
  obtain ⟨A, c, rfl, hc, h⟩ := hR
  refine ⟨?_⟩
  have hs' := hS.sizeOf w
  have hc' : hi ≤ c := by omega
  have h6 : 0 ≤ hi := by omega
  have h7 : lo ≤ (hi.toNat : Int) := by omega
  simp only [execOp, h1, h2, h3, Instr.sliceAt, Option.map_some, Option.map_none]
  simp [run_underlying' hT.out, Instr.slice, Instr.sliceBounds, Instr.sliceBound, asIntOf, h0, h6, hc', h7, hs', sliceV]
  intro hh; omega
theorem r_sliceHi {α : Type} {D : Ty α} {v : Value} {l : List α} {e : TypeId} {ag : Bool} {b : Operand} {k' : IntKind} {hi : Int} [hT : IsSlice P T e] [hS : TF P e ag D.sz] (hR : Rd D w v l) (h1 : ρ s = v) (h3 : ρ b = .int k' hi)
    (h4 : 0 ≤ hi) (h5 : hi ≤ l.length) : Runs P ρ ⟨d, .slice T s none (some b) none, ty, pos, af, g⟩ w (.ok (.value (sliceV v 0 hi.toNat D.sz)) w) := by
  obtain ⟨A, c, rfl, hc, h⟩ := hR
  refine ⟨?_⟩
  have hs' := hS.sizeOf w
  have hc' : hi ≤ c := by omega
  simp only [execOp, h1, h3, Instr.sliceAt, Option.map_some, Option.map_none]
  simp [run_underlying' hT.out, Instr.slice, Instr.sliceBounds, Instr.sliceBound, asIntOf, h4, hc', hs', sliceV]
theorem r_sliceLo {α : Type} {D : Ty α} {v : Value} {l : List α} {e : TypeId} {ag : Bool} {a : Operand} {k : IntKind} {lo : Int} [hT : IsSlice P T e] [hS : TF P e ag D.sz] (hR : Rd D w v l) (h1 : ρ s = v) (h2 : ρ a = .int k lo)
    (h0 : 0 ≤ lo) (h5 : lo ≤ l.length) : Runs P ρ ⟨d, .slice T s (some a) none none, ty, pos, af, g⟩ w (.ok (.value (sliceV v lo.toNat l.length D.sz)) w) := by
  obtain ⟨A, c, rfl, hc, h⟩ := hR
  refine ⟨?_⟩
  have hs' := hS.sizeOf w
  simp only [execOp, h1, h2, Instr.sliceAt, Option.map_some, Option.map_none]
  simp [run_underlying' hT.out, Instr.slice, Instr.sliceBounds, Instr.sliceBound, asIntOf, h0, h5, hs', sliceV]

/-! ### Rows of flat elements -/
def fl {α : Type} (D : Flat α) (l : List α) : List Value := l.flatMap D.enc
theorem fl_length {α : Type} (D : Flat α) (l : List α) : (fl D l).length = l.length * D.sz := by
  induction l with
  | nil => simp [fl]
  | cons x r ih => simp only [fl, List.flatMap_cons, List.length_append, List.length_cons] at *; rw [ih, D.len, Nat.add_mul]; omega
/-- A row of the call's own with the elements l. -/
abbrev rowOb {α : Type} (D : Flat α) (T : TypeId) (v : Value) (l : List α) : Ob := .row v T D.sz l.length (fl D l)
theorem rowOb_congr {α : Type} {D : Flat α} {T : TypeId} {v : Value} {l l' : List α} (h : l = l') : rowOb D T v l = rowOb D T v l' := by rw [h]

theorem madeCells_fl {α : Type} (D : Flat α) (z0 : α) (z : Value) (h : z.cells.toList = D.enc z0) (h0 : 0 < D.sz) (m : Nat) : (madeCells z.cells (m * D.sz)).toList = fl D (List.replicate m z0) := by
  have hz : z.cells.size = D.sz := by have := congrArg List.length h; simpa [D.len] using this
  apply List.ext_getElem?
  intro j
  have key : ∀ m j, (fl D (List.replicate m z0))[j]? = if j < m * D.sz then (D.enc z0)[j % D.sz]? else none := by
    intro m
    induction m with
    | zero => intro j; simp [fl]
    | succ m ih =>
      intro j
      simp only [fl, List.replicate_succ, List.flatMap_cons] at *
      by_cases hj : j < D.sz
      · rw [List.getElem?_append_left (by rw [D.len]; exact hj), if_pos (by rw [Nat.add_mul]; omega), Nat.mod_eq_of_lt hj]
      · rw [List.getElem?_append_right (by rw [D.len]; omega), D.len, ih (j - D.sz), show j % D.sz = (j - D.sz) % D.sz from Nat.mod_eq_sub_mod (by omega)]
        have e : (m + 1) * D.sz = m * D.sz + D.sz := by rw [Nat.add_mul, Nat.one_mul]
        by_cases hm : j - D.sz < m * D.sz
        · rw [if_pos hm, if_pos (by omega)]
        · rw [if_neg hm, if_neg (by omega)]
  rw [key, Array.getElem?_toList, madeCells]
  by_cases hj : j < m * D.sz
  · have hlt : j % z.cells.size < z.cells.size := Nat.mod_lt _ (by omega)
    simp [hj, hz]
    rw [← h]
    rw [hz] at hlt
    have hlt' : j % D.sz < z.cells.size := by omega
    simp [hlt']
  · simp [hj]

theorem fl_set {α : Type} (D : Flat α) (x : α) : ∀ (l : List α) (i : Nat), i < l.length → splice (fl D l) (i * D.sz) (D.enc x) = fl D (l.set i x) := by
  intro l
  induction l with
  | nil => intro i hi; simp at hi
  | cons y r ih =>
    intro i hi
    cases i with
    | zero => simp [splice, fl, D.len]
    | succ i =>
      have h := ih i (by simpa using hi)
      have e1 : (i + 1) * D.sz = D.sz + i * D.sz := by rw [Nat.add_mul]; omega
      simp only [splice, fl, List.flatMap_cons, List.set_cons_succ, D.len] at h ⊢
      rw [← h, e1, List.take_append, D.len, List.drop_append, D.len]
      rw [List.take_of_length_le (by rw [D.len]; omega), List.drop_eq_nil_of_le (by rw [D.len]; omega)]
      simp only [List.nil_append, List.append_assoc]
      congr 3
      · omega
      · rw [show D.sz + i * D.sz + D.sz - D.sz = i * D.sz + D.sz by omega]

/-- make([]T, n) of flat elements. -/
theorem r_makeF {α : Type} {D : Flat α} {e : TypeId} {bytes : Nat} {z : Value} {m : Nat} {k k' : IntKind} [hT : IsSlice P T e] [hI : TI P e z D.sz bytes] (z0 : α) (S : St w0 w os)
    (h1 : ρ s = .int k m) (h2 : ρ t = .int k' m) (hz : z.cells.toList = D.enc z0) (h0 : 0 < D.sz) (hb : bytes * m ≤ 281474976710656) (h63 : m ≤ 9223372036854775807) :
    ∃ v' w', Runs P ρ ⟨d, .makeSlice T s t, ty, pos, af, g⟩ w (.ok (.value v') w') ∧ ∃ b, v' = .slice (some ⟨b, 0, none⟩) m m ∧ Below w.heap.size w w' ∧ St w0 w' (os ++ [rowOb D e v' (List.replicate m z0)]) := by
  obtain ⟨v', w', hr, b, hv, hb', S'⟩ := r_make (P := P) (ρ := ρ) (d := d) (ty := ty) (pos := pos) (af := af) (g := g) (T := T) (s := s) (t := t) (hT := hT) (hI := hI) S h1 h2 hb h63
  refine ⟨v', w', hr, b, hv, hb', ?_⟩
  rw [madeCells_fl D z0 z hz h0 m] at S'
  simpa [rowOb] using S'

/-- out[j] = x, out a row of the call's own. -/
theorem r_storeElem {α : Type} {D : Flat α} {i : Nat} {T' : TypeId} {l : List α} {x : α} {v u : Value} {j : Int} {ag : Bool} [hS : TF P T ag D.sz] (S : St w0 w os) (hi : os[i]? = some (rowOb D T' v l)) (h1 : ρ s = .pointer (some (elemAddr v D.sz j.toNat))) (h2 : ρ t = u)
    (hu : u.cells.toList = D.enc x) (h1c : ∀ c ∈ D.enc x, c.oneCell' = true) (h0 : 0 ≤ j) (hl : j < l.length) :
    ∃ w', Runs P ρ ⟨d, .store T s t, ty, pos, af, g⟩ w (.ok .skip w') ∧ St w0 w' (os.set i (rowOb D T' v (l.set j.toNat x))) := by
  have how : w.ownsRow w0.heap.size T' D.sz v l.length (fl D l) := S.ok _ (mem_of_get hi)
  obtain ⟨b, cap, rfl, _, _⟩ := how.form (by omega)
  have ha : elemAddr (.slice (some ⟨b, 0, none⟩) l.length cap) D.sz j.toNat = ⟨b, j.toNat * D.sz, none⟩ := by
    show (⟨b, 0, none⟩ : Addr).add _ = _
    rw [add_lit, Nat.zero_add]
  rw [ha] at h1
  have hjl : j.toNat < l.length := by omega
  have hfit : j.toNat * D.sz + D.sz ≤ (fl D l).length := by
    rw [fl_length, ← Nat.succ_mul]; exact Nat.mul_le_mul_right _ hjl
  have husz : u.cells.size = D.sz := by have := congrArg List.length hu; simpa [D.len] using this
  have := r_storeRow (P := P) (ρ := ρ) (d := d) (ty := ty) (pos := pos) (af := af) (g := g) (T := T) (s := s) (t := t) S hi h1 h2 husz hfit (by rw [hu]; exact h1c)
  rw [hu, fl_set D x l _ hjl] at this
  simpa [rowOb] using this

/-- append(v, x) -/
theorem r_append1 {α : Type} {D : Flat α} {e : TypeId} {bytes i b : Nat} {z v : Value} {l : List α} {x : α} [hT : IsSlice P T e] [hI : TI P e z D.sz bytes] (S : St w0 w os) (hi : os[i]? = some (rowOb D e v l))
    (h1 : ρ s = v) (h2 : ρ t = .slice (some ⟨b, 0, none⟩) 1 1) (hc : CellsAt w ⟨b, 0, none⟩ (D.enc x)) (hz : z.cells.size = D.sz) (h0 : 0 < D.sz) (h1c : ∀ u ∈ D.enc x, u.oneCell' = true)
    (hb : (l.length + 1) * bytes ≤ 140737488355328) (h63 : l.length + 1 ≤ 9223372036854775807) :
    ∃ v' w', Runs P ρ ⟨d, .call { callee := .builtin .append, args := #[s, t], argTypes := #[T, T] }, ty, pos, af, g⟩ w (.ok (.value v') w') ∧ w.grownBy w' v.ownBlock ∧ St w0 w' (os.set i (rowOb D e v' (l ++ [x]))) := by
  obtain ⟨v', w', hr, hg, S'⟩ := r_append (P := P) (ρ := ρ) (d := d) (ty := ty) (pos := pos) (af := af) (g := g) (T := T) (s := s) (t := t) S hi hz h0 h1 h2 hc (by rw [D.len, Nat.one_mul]) h1c h63 hb
  refine ⟨v', w', hr, hg, ?_⟩
  have e : fl D l ++ D.enc x = fl D (l ++ [x]) := by simp [fl]
  rw [e] at S'
  simpa [rowOb] using S'

/-- append(v, l2...) -/
theorem Rd.cells {α : Type} {D : Flat α} {v : Value} {l : List α} (h : Rd D.ty w v l) : (∃ c, v = .slice none 0 c ∧ c = 0 ∧ l = []) ∨ ∃ a c, v = .slice (some a) l.length c ∧ (∀ j u, (fl D l)[j]? = some u → w.cell? (a.add j) = some u) := by
  obtain ⟨A, c, rfl, hc, h⟩ := h
  rcases h with ⟨h, hA⟩ | ⟨a, rfl, hs, hlt, h⟩
  · subst h
    cases A with
    | none => exact .inl ⟨c, rfl, hA rfl, rfl⟩
    | some a => exact .inr ⟨a, c, rfl, by simp [fl]⟩
  · refine .inr ⟨a, c, rfl, ?_⟩
    have key : ∀ (l : List α) (k : Nat), (∀ j x, l[j]? = some x → ∃ cs, D.ty.R w x cs ∧ ∀ i u, cs[i]? = some u → w.cell? (a.add ((k + j) * D.sz + i)) = some u) → ∀ j u, (fl D l)[j]? = some u → w.cell? (a.add (k * D.sz + j)) = some u := by
      intro l
      induction l with
      | nil => intro k _ j u hj; simp [fl] at hj
      | cons y r ih =>
        intro k hk j u hj
        simp only [fl, List.flatMap_cons] at hj
        by_cases hlt : j < D.sz
        · rw [List.getElem?_append_left (by rw [D.len]; exact hlt)] at hj
          obtain ⟨cs, hR, hcs⟩ := hk 0 y rfl
          have hR' : cs = D.enc y := hR
          subst hR'
          exact hcs j u hj
        · rw [List.getElem?_append_right (by rw [D.len]; omega), D.len] at hj
          have := ih (k + 1) (fun j x hx => by
            obtain ⟨cs, hR, hcs⟩ := hk (j + 1) x (by simpa using hx)
            exact ⟨cs, hR, fun i u hi => by rw [show (k + 1 + j) = (k + (j + 1)) by omega]; exact hcs i u hi⟩) (j - D.sz) u hj
          rwa [show (k + 1) * D.sz + (j - D.sz) = k * D.sz + j by rw [Nat.add_mul]; omega] at this
    intro j u hj
    have := key l 0 (fun j x hx => by obtain ⟨cs, hR, hcs⟩ := h j x hx; exact ⟨cs, hR, fun i u hi => by rw [Nat.zero_add]; exact hcs i u hi⟩) j u hj
    rwa [Nat.zero_mul, Nat.zero_add] at this

theorem r_appendRd {α : Type} {D : Flat α} {e : TypeId} {bytes i : Nat} {z v v2 : Value} {l l2 : List α} [hT : IsSlice P T e] [hI : TI P e z D.sz bytes] (S : St w0 w os) (hi : os[i]? = some (rowOb D e v l)) (hR : Rd D.ty w v2 l2)
    (h1 : ρ s = v) (h2 : ρ t = v2) (hz : z.cells.size = D.sz) (h0 : 0 < D.sz) (h1c : ∀ x, ∀ u ∈ D.enc x, u.oneCell' = true)
    (hb : (l.length + l2.length) * bytes ≤ 140737488355328) (h63 : l.length + l2.length ≤ 9223372036854775807) :
    ∃ v' w', Runs P ρ ⟨d, .call { callee := .builtin .append, args := #[s, t], argTypes := #[T, T] }, ty, pos, af, g⟩ w (.ok (.value v') w') ∧ w.grownBy w' v.ownBlock ∧ St w0 w' (os.set i (rowOb D e v' (l ++ l2))) := by
  have how : w.ownsRow w0.heap.size e D.sz v l.length (fl D l) := S.ok _ (mem_of_get hi)
  rcases hR.cells with ⟨c, rfl, rfl, rfl⟩ | ⟨a, c, rfl, hcs⟩
  · obtain ⟨ti, hti, _⟩ := hI.out
    refine ⟨v, w, ⟨?_⟩, World.grownBy.refl _ _, ?_⟩
    · simp only [execOp, resolve, List.map_toArray, List.map_cons, List.map_nil, h1, h2]
      simp only [invoke, builtin]
      refine (run_bind (a := { target := _, args := _ }) rfl).trans ?_
      exact run_bind (run_append_owned_none (P := P) w w0.heap.size T ty e ti D.sz hT.out hti v l.length (fl D l) how)
    · rw [List.append_nil]
      have : os.set i (rowOb D e v l) = os := by
        apply List.ext_getElem?
        intro j
        rw [List.getElem?_set]
        by_cases hj : i = j
        · subst hj; rw [if_pos rfl, hi]; split
          · rfl
          · rename_i hlt; rw [List.getElem?_eq_none (by omega)] at hi; cases hi
        · rw [if_neg hj]
      rw [this]; exact S
  · obtain ⟨ti, hti, hz', hs, hby⟩ := hI.out
    have hsz : ti.size = D.sz := hs
    obtain ⟨v', w', hr, how', hg, _, hbk⟩ := run_append_own_at (P := P) w w0.heap.size T ty e ti z D.sz bytes hT.out hti hz' hs hby hz h0 v l.length (fl D l) how a l2.length c (fl D l2) (fl_length D l2) hcs
      (fun u hu => by obtain ⟨x, _, hx⟩ := List.mem_flatMap.1 hu; exact h1c x u hx) (by simpa [maxLen] using h63) hb S.below.size
    refine ⟨v', w', ⟨?_⟩, hg, ?_⟩
    · simp only [execOp, resolve, List.map_toArray, List.map_cons, List.map_nil, h1, h2]
      simp only [invoke, builtin]
      refine (run_bind (a := { target := _, args := _ }) rfl).trans ?_
      exact run_bind hr
    · have e2 : fl D l ++ fl D l2 = fl D (l ++ l2) := by simp [fl]
      rw [e2] at how'
      have hlen : l.length + l2.length = (l ++ l2).length := by simp
      rw [hlen] at how'
      refine S.write hi hg how' ?_
      rcases hbk with h | h
      · exact .inl h
      · exact .inr (.inr ⟨_, h, Nat.le_refl _⟩)

end

/-- A call that hands back more than a known value. -/
structure CallsR (P : Program) (f : FuncId) (args : Array Value) (w : World) (R : Value → World → Prop) : Prop where mk :: (out : Calls P f args w fun e w' => ∃ v, e = .returned v ∧ Below w.heap.size w w' ∧ R v w')
theorem st_callR {P : Program} {n : Nat} {ops : Array Oper} {Q : Post} {σ : Nat → Value} {w : World} {o : Oper} {rest : List Oper} {f : FuncId} {args : Array Value} {R : Value → World → Prop} (hw : wantS o ops n σ = true) (hrun : Runs P (opv (cut n σ)) o w (.ok (.enter f args) w))
    (hc : CallsR P f args w R) (k : ∀ v w1, Below w.heap.size w w1 → R v w1 → wl P n ops Q rest (updO σ o.dst v) w1) : wl P n ops Q (o :: rest) σ w :=
  st_enter hw hrun hc.out fun _ w1 ⟨v, he, hb, hR⟩ => ⟨v, he, k v w1 hb hR⟩
/-- A row made since w. -/
abbrev NewRow {α : Type} (D : Flat α) (T : TypeId) (w w' : World) (v : Value) (l : List α) : Prop := (rowOb D T v l).ok w' w.heap.size
theorem NewRow.nil {α : Type} (D : Flat α) (T : TypeId) (w w' : World) : NewRow D T w w' (.slice none 0 0) [] := World.ownsRow_nil _ _ _ _
theorem St.row {α : Type} {D : Flat α} {T : TypeId} {w0 w : World} {os : List Ob} {i : Nat} {v : Value} {l : List α} (S : St w0 w os) (hi : os[i]? = some (rowOb D T v l)) : NewRow D T w0 w v l := S.ok _ (mem_of_get hi)
theorem St.rdRow {α : Type} {D : Flat α} {T : TypeId} {w0 w : World} {os : List Ob} {i : Nat} {v : Value} {l : List α} (S : St w0 w os) (hi : os[i]? = some (rowOb D T v l)) : Rd D.ty w v l := S.rd D hi
theorem St.nilRow {α : Type} (D : Flat α) (T : TypeId) {w0 w : World} {os : List Ob} (S : St w0 w os) : St w0 w (os ++ [rowOb D T (.slice none 0 0) []]) := S.new (Below.refl _ _) (World.ownsRow_nil _ _ _ _)
end Go.Gx
