/-
  Memory: what a slice reads as, what a call owns, and what loads, stores, allocations and appends come to.
-/
import Derived.Test.YteplelijhkmbkaaDoorGxOps
import Derived.Deep.AppendLies
namespace Go.Gx
open Go Go.RowKit
set_option linter.unusedSimpArgs false
set_option linter.unusedVariables false

/-! ### Kinds of elements -/
structure Ty (α : Type) where
  sz : Nat
  R : World → α → List Value → Prop
  len : ∀ {w x cs}, R w x cs → cs.length = sz
  mono : ∀ {w w' x cs}, Below w.heap.size w w' → R w x cs → R w' x cs

/-- A kind without pointers. -/
structure Flat (α : Type) where
  sz : Nat
  enc : α → List Value
  len : ∀ x, (enc x).length = sz
def Flat.ty {α : Type} (d : Flat α) : Ty α := ⟨d.sz, fun _ x cs => cs = d.enc x, fun h => by rw [h]; exact d.len _, fun _ h => h⟩
def fInt (k : IntKind) : Flat Int := ⟨1, fun x => [.int k x], fun _ => rfl⟩
def fBool : Flat Bool := ⟨1, fun x => [.bool x], fun _ => rfl⟩
def fStr : Flat ByteArray := ⟨1, fun x => [.string x], fun _ => rfl⟩

/-- The address of element i. -/
def elemAddr : Value → Nat → Nat → Addr
  | .slice (some a) _ _, sz, i => a.add (i * sz)
  | _, _, _ => ⟨0, 0, none⟩

theorem add_add (a : Addr) (i j : Nat) : (a.add i).add j = a.add (i + j) := by
  unfold Addr.add
  by_cases hi : i = 0
  · subst hi; simp
  · by_cases hj : j = 0
    · subst hj; simp [hi]
    · simp [hi, hj, Nat.add_assoc]
theorem add_block (a : Addr) (i : Nat) : (a.add i).block = a.block := by unfold Addr.add; split <;> rfl
theorem add_zero (a : Addr) : a.add 0 = a := by simp [Addr.add]
theorem add_lit (b o j : Nat) : (⟨b, o, none⟩ : Addr).add j = ⟨b, o + j, none⟩ := by unfold Addr.add; split <;> simp_all

/-- The slice v reads as the list l. -/
def Rd {α : Type} (d : Ty α) (w : World) (v : Value) (l : List α) : Prop :=
  ∃ A c, v = .slice A l.length c ∧ l.length ≤ c ∧ ((l = [] ∧ (A = none → c = 0)) ∨ ∃ a, A = some a ∧ a.spot = none ∧ a.block < w.heap.size ∧
    ∀ j x, l[j]? = some x → ∃ cs, d.R w x cs ∧ ∀ i u, cs[i]? = some u → w.cell? (a.add (j * d.sz + i)) = some u)

theorem Rd.nil {α : Type} (d : Ty α) (w : World) : Rd d w (.slice none 0 0) [] := ⟨none, 0, rfl, Nat.le_refl _, .inl ⟨rfl, fun _ => rfl⟩⟩
theorem Rd.len {α : Type} {d : Ty α} {w : World} {v : Value} {l : List α} (h : Rd d w v l) : ∃ A c, v = .slice A l.length c := let ⟨A, c, e, _⟩ := h; ⟨A, c, e⟩

theorem Rd.mono {α : Type} {d : Ty α} {w w' : World} {v : Value} {l : List α} (h : Rd d w v l) (hb : Below w.heap.size w w') : Rd d w' v l := by
  obtain ⟨A, c, e, hc, h⟩ := h
  refine ⟨A, c, e, hc, ?_⟩
  rcases h with h | ⟨a, ea, hs, hlt, h⟩
  · exact .inl h
  · refine .inr ⟨a, ea, hs, Nat.lt_of_lt_of_le hlt hb.size, fun j x hj => ?_⟩
    obtain ⟨cs, hR, hcs⟩ := h j x hj
    exact ⟨cs, d.mono hb hR, fun i u hi => by rw [hb.cell (by rw [add_block]; exact hlt)]; exact hcs i u hi⟩

theorem Rd.elem {α : Type} {d : Ty α} {w : World} {v : Value} {l : List α} (h : Rd d w v l) {i : Nat} {x : α} (hx : l[i]? = some x) :
    ∃ cs, d.R w x cs ∧ (elemAddr v d.sz i).block < w.heap.size ∧ (elemAddr v d.sz i).spot = none ∧ ∀ j u, cs[j]? = some u → w.cell? ((elemAddr v d.sz i).add j) = some u := by
  obtain ⟨A, c, rfl, hc, h⟩ := h
  rcases h with h | ⟨a, rfl, hs, hlt, h⟩
  · obtain ⟨h, _⟩ := h; subst h; simp at hx
  · obtain ⟨cs, hR, hcs⟩ := h i x hx
    refine ⟨cs, hR, ?_, ?_, fun j u hj => ?_⟩
    · show (a.add (i * d.sz)).block < _; rw [add_block]; exact hlt
    · show (a.add (i * d.sz)).spot = none; unfold Addr.add; split <;> simp [hs]
    · show w.cell? ((a.add (i * d.sz)).add j) = some u
      rw [add_add]; exact hcs j u hj

/-- The head of a list of cells lies at an address. -/
def CellsAt (w : World) (a : Addr) (cs : List Value) : Prop := a.block < w.heap.size ∧ a.spot = none ∧ ∀ j u, cs[j]? = some u → w.cell? (a.add j) = some u
theorem CellsAt.mono {w w' : World} {a : Addr} {cs : List Value} (h : CellsAt w a cs) (hb : Below w.heap.size w w') : CellsAt w' a cs :=
  ⟨Nat.lt_of_lt_of_le h.1 hb.size, h.2.1, fun j u hj => by rw [hb.cell (by rw [add_block]; exact h.1)]; exact h.2.2 j u hj⟩
theorem CellsAt.drop {w : World} {a : Addr} {cs : List Value} (h : CellsAt w a cs) (n : Nat) : CellsAt w (a.add n) (cs.drop n) :=
  ⟨by rw [add_block]; exact h.1, by unfold Addr.add; split <;> simp [h.2.1], fun j u hj => by rw [add_add]; exact h.2.2 _ u (by rw [List.getElem?_drop] at hj; exact hj)⟩
theorem CellsAt.take {w : World} {a : Addr} {cs : List Value} (h : CellsAt w a cs) (n : Nat) : CellsAt w a (cs.take n) :=
  ⟨h.1, h.2.1, fun j u hj => h.2.2 j u (by rw [List.getElem?_take] at hj; split at hj; exact hj; cases hj)⟩

def nth {α : Type} [Inhabited α] (l : List α) (i : Int) : α := l.getD i.toNat default
theorem nth_get {α : Type} [Inhabited α] {l : List α} {i : Int} (h0 : 0 ≤ i) (h : i < l.length) : l[i.toNat]? = some (nth l i) := by
  have : i.toNat < l.length := by omega
  simp [nth, List.getD, List.getElem?_eq_getElem this]
theorem Rd.flat {α : Type} [Inhabited α] {d : Flat α} {w : World} {v : Value} {l : List α} (h : Rd d.ty w v l) {i : Int} (h0 : 0 ≤ i) (h1 : i < l.length) :
    CellsAt w (elemAddr v d.sz i.toNat) (d.enc (nth l i)) := by
  obtain ⟨cs, hR, hb, hs, hc⟩ := h.elem (nth_get h0 h1)
  have hR' : cs = d.enc (nth l i) := hR
  subst hR'
  exact ⟨hb, hs, hc⟩

/-! ### What a type is -/
class TF (P : Program) (T : TypeId) (agg : outParam Bool) (size : outParam Nat) : Prop where
  isAgg : ∀ w, (isAgg T).run P w = .ok agg w
  sizeOf : ∀ w, (sizeOf T).run P w = .ok size w

section
variable {P : Program} {ρ : Operand → Value} {w : World} {d : Option Tmp} {ty : TypeId} {pos : String} {af : Array Edge} {g : Option (Nat × Bool)} {T : TypeId} {s t : Operand}

theorem run_bind {α β : Type} {m : Sem α} {f : α → Sem β} {a : α} {w w' : World} (h : m.run P w = .ok a w') : (m >>= f).run P w = (f a).run P w' := by
  rw [Sem.run_bind, h]; rfl

theorem run_load1 {a : Addr} {v : Value} (h : w.cell? a = some v) : (load a).run P w = .ok v w := by simp [load, Sem.run, h]

theorem r_load {a : Addr} {v : Value} [hT : TF P T false 1] (ha : ρ s = .pointer (some a)) (hc : w.cell? a = some v) : Runs P ρ ⟨d, .load T s, ty, pos, af, g⟩ w (.ok (.value v) w) :=
  ⟨by
    simp only [execOp, ha, Instr.loadAt, Instr.sureAddr, loadVar]
    refine run_bind (a := v) ?_
    refine (run_bind (a := a) rfl).trans ?_
    refine (run_bind (hT.isAgg w)).trans ?_
    exact run_load1 hc⟩

theorem r_loadA {a : Addr} {cs : List Value} {n : Nat} [hT : TF P T true n] (ha : ρ s = .pointer (some a)) (hl : cs.length = n) (hc : CellsAt w a cs) : Runs P ρ ⟨d, .load T s, ty, pos, af, g⟩ w (.ok (.value (.agg cs.toArray)) w) :=
  ⟨by
    have hl : (loadCells a n).run P w = .ok cs.toArray w := by subst hl; exact run_loadCells_list (P := P) (w := w) a cs hc.2.2
    simp only [execOp, ha, Instr.loadAt, Instr.sureAddr, loadVar]
    refine run_bind (a := Value.agg cs.toArray) ?_
    refine (run_bind (a := a) rfl).trans ?_
    refine (run_bind (hT.isAgg w)).trans ?_
    refine (run_bind (hT.sizeOf w)).trans ?_
    exact run_bind hl⟩

theorem r_indexAddr {α : Type} {D : Ty α} {v : Value} {l : List α} {k : IntKind} {i : Int} {e : TypeId} {ag : Bool} [hT : IsSlice P T e] [hS : TF P e ag D.sz] (hR : Rd D w v l) (h1 : ρ s = v) (h2 : ρ t = .int k i)
    (h0 : 0 ≤ i) (hl : i < l.length) : Runs P ρ ⟨d, .indexAddr T s t, ty, pos, af, g⟩ w (.ok (.value (.pointer (some (elemAddr v D.sz i.toNat)))) w) := by
  obtain ⟨A, c, rfl, hc, h⟩ := hR
  rcases h with h | ⟨a, rfl, hs, hlt, h⟩
  · obtain ⟨h, _⟩ := h; subst h; simp at hl; omega
  · refine ⟨?_⟩
    have hs' := hS.sizeOf w
    simp only [execOp, h1, h2, Instr.indexAt, asIntOf]
    simp [run_underlying' hT.out, h0, hl, hs', elemAddr]

/-- Field j of struct type T lies off cells from its begin. -/
class FA (P : Program) (T : TypeId) (j : Nat) (off : outParam Nat) : Prop where out : ∀ (a : Addr) (w : World), (Instr.fieldAt T (.pointer (some a)) j).run P w = .ok (.pointer (some (a.add off))) w
theorem r_fieldAddr {a : Addr} {j off : Nat} [hF : FA P T j off] (h1 : ρ s = .pointer (some a)) : Runs P ρ ⟨d, .fieldAddr T s j, ty, pos, af, g⟩ w (.ok (.value (.pointer (some (a.add off)))) w) :=
  ⟨by simp only [execOp, h1]; exact run_bind (hF.out a w)⟩
/-- Field j of a struct's value. -/
class FV (P : Program) (T : TypeId) (j : Nat) (off : outParam Nat) : Prop where out : ∀ (cs : Array Value) (v : Value) (w : World), cs[off]? = some v → (Instr.field T (.agg cs) j).run P w = .ok v w
theorem r_field {cs : Array Value} {v : Value} {j off : Nat} [hF : FV P T j off] (h1 : ρ s = .agg cs) (hv : cs[off]? = some v) : Runs P ρ ⟨d, .field T s j, ty, pos, af, g⟩ w (.ok (.value v) w) :=
  ⟨by simp only [execOp, h1]; exact run_bind (hF.out cs v w hv)⟩
class FVA (P : Program) (T : TypeId) (j : Nat) (off : outParam Nat) (sz : outParam Nat) : Prop where out : ∀ (cs : Array Value) (w : World), (Instr.field T (.agg cs) j).run P w = .ok (.agg (cs.extract off (off + sz))) w
theorem r_fieldAgg {cs : Array Value} {j off sz : Nat} [hF : FVA P T j off sz] (h1 : ρ s = .agg cs) : Runs P ρ ⟨d, .field T s j, ty, pos, af, g⟩ w (.ok (.value (.agg (cs.extract off (off + sz)))) w) :=
  ⟨by simp only [execOp, h1]; exact run_bind (hF.out cs w)⟩
/-- An array's element, by its address and by value. -/
theorem r_indexAddrArr {a : Addr} {n sz : Nat} {k : IntKind} {i : Int} {e : TypeId} {ag : Bool} [hT : IsArr P T n e] [hS : TF P e ag sz] (h1 : ρ s = .pointer (some a)) (h2 : ρ t = .int k i)
    (h0 : 0 ≤ i) (hl : i < n) : Runs P ρ ⟨d, .indexAddr T s t, ty, pos, af, g⟩ w (.ok (.value (.pointer (some (a.add (i.toNat * sz))))) w) :=
  ⟨by
    have hs' := hS.sizeOf w
    simp only [execOp, h1, h2, Instr.indexAt, asIntOf]
    simp [run_underlying' hT.out, h0, hl, hs', Instr.sureAddr]⟩
theorem r_indexArr {cs : Array Value} {v : Value} {n : Nat} {k : IntKind} {i : Int} {e : TypeId} [hT : IsArr P T n e] [hF : TF P e false 1] (h1 : ρ s = .agg cs) (h2 : ρ t = .int k i)
    (h0 : 0 ≤ i) (hl : i < n) (hv : cs[i.toNat]? = some v) : Runs P ρ ⟨d, .index T s t, ty, pos, af, g⟩ w (.ok (.value v) w) :=
  ⟨by
    have hs' := hF.sizeOf w
    have ha' := hF.isAgg w
    simp only [execOp, h1, h2, Instr.index, asIntOf]
    simp [run_underlying' hT.out, h0, hl, hs', part, ha', hv]⟩
theorem r_indexArrAgg {cs : Array Value} {n sz : Nat} {k : IntKind} {i : Int} {e : TypeId} [hT : IsArr P T n e] [hF : TF P e true sz] (h1 : ρ s = .agg cs) (h2 : ρ t = .int k i)
    (h0 : 0 ≤ i) (hl : i < n) : Runs P ρ ⟨d, .index T s t, ty, pos, af, g⟩ w (.ok (.value (.agg (cs.extract (i.toNat * sz) (i.toNat * sz + sz)))) w) :=
  ⟨by
    have hs' := hF.sizeOf w
    have ha' := hF.isAgg w
    simp only [execOp, h1, h2, Instr.index, asIntOf]
    simp [run_underlying' hT.out, h0, hl, hs', part, ha']⟩
end

/-! ### What a call owns -/
inductive Ob where
  | var (b : Nat) (T : TypeId) (cs : List Value)
  | row (v : Value) (T : TypeId) (sz n : Nat) (xs : List Value)
  | raw (b : Nat) (o : Obj)
def Ob.blk : Ob → Option Nat
  | .var b _ _ => some b
  | .row v _ _ _ _ => v.ownBlock
  | .raw b _ => some b
def Ob.ok (w : World) (B : Nat) : Ob → Prop
  | .var b T cs => B ≤ b ∧ w.heap[b]? = some (.cells cs.toArray T (0, 0))
  | .row v T sz n xs => w.ownsRow B T sz v n xs
  | .raw b o => B ≤ b ∧ w.heap[b]? = some o

theorem heap_lt {w : World} {b : Nat} {o : Obj} (h : w.heap[b]? = some o) : b < w.heap.size := (Array.getElem?_eq_some_iff.1 h).1
theorem Ob.ok.lt {w : World} {B : Nat} {o : Ob} (h : o.ok w B) : ∀ k, o.blk = some k → B ≤ k ∧ k < w.heap.size := by
  cases o with
  | var b T cs => intro k hk; cases hk; exact ⟨h.1, heap_lt h.2⟩
  | row v T sz n xs => exact World.ownsRow.lt h
  | raw b o => intro k hk; cases hk; exact ⟨h.1, heap_lt h.2⟩
/-- An object lives on where its block lies as it did. -/
theorem Ob.ok.move {w w' : World} {B : Nat} {o : Ob} (h : o.ok w B) (hb : ∀ k, o.blk = some k → w'.heap[k]? = w.heap[k]?) : o.ok w' B := by
  cases o with
  | var b T cs => exact ⟨h.1, (hb b rfl).trans h.2⟩
  | row v T sz n xs =>
    obtain ⟨h1, h2⟩ := h
    refine ⟨h1, ?_⟩
    rcases h2 with h2 | ⟨g, cap, cur, hv, hg, hh, r⟩
    · exact .inl h2
    · exact .inr ⟨g, cap, cur, hv, hg, (hb g (by subst hv; rfl)).trans hh, r⟩
  | raw b o => exact ⟨h.1, (hb b rfl).trans h.2⟩

structure St (w0 w : World) (os : List Ob) : Prop where
  below : Below w0.heap.size w0 w
  ok : ∀ o ∈ os, o.ok w w0.heap.size
  apart : os.Pairwise fun a b => a.blk = none ∨ a.blk ≠ b.blk

theorem St.start (w : World) : St w w [] := ⟨Below.refl _ _, fun _ h => absurd h (List.not_mem_nil), List.Pairwise.nil⟩
theorem St.grow {w0 w w' : World} {os : List Ob} (S : St w0 w os) (h : Below w.heap.size w w') : St w0 w' os :=
  ⟨S.below.trans (h.mono S.below.size), fun o ho => (S.ok o ho).move fun k hk => h.block k ((S.ok o ho).lt k hk).2, S.apart⟩
theorem St.sub {w0 w : World} {os os' : List Ob} (S : St w0 w os) (h : os'.Sublist os) : St w0 w os' :=
  ⟨S.below, fun o ho => S.ok o (h.subset ho), S.apart.sublist h⟩
theorem St.drop_last {w0 w : World} {os : List Ob} {o : Ob} (S : St w0 w (os ++ [o])) : St w0 w os := S.sub (List.sublist_append_left _ _)

/-- A new object. -/
theorem St.new {w0 w w' : World} {os : List Ob} {o : Ob} (S : St w0 w os) (h : Below w.heap.size w w') (ho : o.ok w' w.heap.size) : St w0 w' (os ++ [o]) := by
  have S' := S.grow h
  have hle : w0.heap.size ≤ w.heap.size := S.below.size
  have ho' : o.ok w' w0.heap.size := by
    cases o with
    | var b T cs => exact ⟨Nat.le_trans hle ho.1, ho.2⟩
    | row v T sz n xs =>
      obtain ⟨h1, h2⟩ := ho
      refine ⟨h1, ?_⟩
      rcases h2 with h2 | ⟨g, cap, cur, hv, hg, r⟩
      · exact .inl h2
      · exact .inr ⟨g, cap, cur, hv, Nat.le_trans hle hg, r⟩
    | raw b o => exact ⟨Nat.le_trans hle ho.1, ho.2⟩
  refine ⟨S'.below, fun x hx => ?_, ?_⟩
  · rcases List.mem_append.1 hx with hx | hx
    · exact S'.ok x hx
    · rw [List.mem_singleton.1 hx]; exact ho'
  · refine List.pairwise_append.2 ⟨S'.apart, List.pairwise_singleton _ _, fun a ha b hb => ?_⟩
    rw [List.mem_singleton.1 hb]
    cases ha' : a.blk with
    | none => exact .inl rfl
    | some k =>
      refine .inr fun e => ?_
      have h1 := ((S.ok a ha).lt k ha').2
      have h2 := (ho.lt k e.symm).1
      omega

theorem mem_of_get {os : List Ob} {i : Nat} {o : Ob} (h : os[i]? = some o) : o ∈ os := List.mem_of_getElem? h

/-- Object i has been written: it is o' now; its block is the old one, or new. -/
theorem St.write {w0 w w' : World} {os : List Ob} {i : Nat} {o o' : Ob} (S : St w0 w os) (hi : os[i]? = some o) (hg : w.grownBy w' o.blk) (ho : o'.ok w' w0.heap.size)
    (hb : o'.blk = o.blk ∨ o'.blk = none ∨ ∃ k, o'.blk = some k ∧ w.heap.size ≤ k) : St w0 w' (os.set i o') := by
  have hio : i < os.length := by
    rcases Nat.lt_or_ge i os.length with h | h
    · exact h
    · rw [List.getElem?_eq_none h] at hi; cases hi
  have hoi : os[i] = o := by rw [List.getElem?_eq_getElem hio] at hi; exact Option.some.inj hi
  have hbl : Below w0.heap.size w0 w' := S.below.grown hg S.below.size fun k hk => ((S.ok o (mem_of_get hi)).lt k hk).1
  have other : ∀ (j : Nat) (x : Ob), os[j]? = some x → j ≠ i → x.blk = none ∨ x.blk ≠ o.blk := by
    intro j x hj hji
    have hjl : j < os.length := by
      rcases Nat.lt_or_ge j os.length with h | h
      · exact h
      · rw [List.getElem?_eq_none h] at hj; cases hj
    have hxj : os[j] = x := by rw [List.getElem?_eq_getElem hjl] at hj; exact Option.some.inj hj
    have hp := List.pairwise_iff_getElem.1 S.apart
    rcases Nat.lt_or_ge j i with h | h
    · have := hp j i hjl hio h; rw [hoi, hxj] at this; exact this
    · have := hp i j hio hjl (by omega); rw [hoi, hxj] at this
      rcases this with h1 | h1
      · cases hx : x.blk with
        | none => exact .inl rfl
        | some k => rw [h1]; exact .inr (by simp)
      · exact .inr fun e => h1 e.symm
  have keep : ∀ (j : Nat) (x : Ob), os[j]? = some x → j ≠ i → x.ok w' w0.heap.size := by
    intro j x hj hji
    have hx := S.ok x (mem_of_get hj)
    refine hx.move fun k hk => hg.block k (hx.lt k hk).2 fun e => ?_
    rcases other j x hj hji with h | h
    · rw [h] at hk; cases hk
    · exact h (hk.trans e)
  have apart' : ∀ (j : Nat) (x : Ob), os[j]? = some x → j ≠ i → x.blk = none ∨ x.blk ≠ o'.blk := by
    intro j x hj hji
    rcases hb with hb | hb | ⟨k, hb, hk⟩
    · rw [hb]; exact other j x hj hji
    · rw [hb]; cases hx : x.blk with
      | none => exact .inl rfl
      | some k => exact .inr (by simp)
    · cases hx : x.blk with
      | none => exact .inl rfl
      | some k' =>
        refine .inr fun e => ?_
        rw [hb] at e
        have := ((S.ok x (mem_of_get hj)).lt k' hx).2
        have : k' = k := Option.some.inj e
        omega
  refine ⟨hbl, fun x hx => ?_, ?_⟩
  · obtain ⟨j, hj⟩ := List.getElem?_of_mem hx
    rw [List.getElem?_set] at hj
    by_cases e : i = j
    · rw [if_pos e] at hj; simp [← e, hio] at hj; rw [← hj]; exact ho
    · rw [if_neg e] at hj; exact keep j x hj (Ne.symm e)
  · refine List.pairwise_iff_getElem.2 fun j j' hj hj' hlt => ?_
    have hj1 : j < os.length := by simpa using hj
    have hj2 : j' < os.length := by simpa using hj'
    rw [List.getElem_set, List.getElem_set]
    by_cases e : i = j
    · rw [if_pos e, if_neg (by omega)]
      rcases apart' j' _ (List.getElem?_eq_getElem hj2) (by omega) with h | h
      · cases ho' : o'.blk with
        | none => exact .inl rfl
        | some k => rw [h]; exact .inr (by simp)
      · exact .inr fun e => h e.symm
    · by_cases e' : i = j'
      · rw [if_neg e, if_pos e']; exact apart' j _ (List.getElem?_eq_getElem hj1) (Ne.symm e)
      · rw [if_neg e, if_neg e']; exact List.pairwise_iff_getElem.1 S.apart j j' hj1 hj2 hlt

/-- What a variable holds lies at its address. -/
theorem St.var {w0 w : World} {os : List Ob} (S : St w0 w os) {i : Nat} {b : Nat} {T : TypeId} {cs : List Value} (hi : os[i]? = some (.var b T cs)) : CellsAt w ⟨b, 0, none⟩ cs := by
  have h := (S.ok _ (mem_of_get hi)).2
  refine ⟨heap_lt h, rfl, fun j u hj => ?_⟩
  have : (⟨b, 0, none⟩ : Addr).add j = ⟨b, j, none⟩ := by unfold Addr.add; split <;> simp_all
  rw [this]
  simpa [World.cell?, h] using hj
theorem St.rd {α : Type} {w0 w : World} {os : List Ob} (S : St w0 w os) (D : Flat α) {i : Nat} {v : Value} {T : TypeId} {l : List α} (hi : os[i]? = some (.row v T D.sz l.length (l.flatMap D.enc))) : Rd D.ty w v l := by
  have h : w.ownsRow w0.heap.size T D.sz v l.length (l.flatMap D.enc) := S.ok _ (mem_of_get hi)
  have hlt := (Ob.ok.lt (o := .row v T D.sz l.length (l.flatMap D.enc)) h)
  rcases h.2 with ⟨h1, h2⟩ | ⟨g, cap, cur, hv, hg, hh, hn, hm, hc, ht⟩
  · have : l = [] := List.length_eq_zero_iff.1 h2
    subst this; subst h1; exact Rd.nil _ _
  · refine ⟨some ⟨g, 0, none⟩, cap, hv, hn, .inr ⟨_, rfl, rfl, heap_lt hh, fun j x hj => ⟨_, rfl, fun i u hu => ?_⟩⟩⟩
    have hcl := h.cells (g := g) (by rw [hv]; rfl)
    refine hcl _ u ?_
    have hjl : j < l.length := by
      rcases Nat.lt_or_ge j l.length with h | h
      · exact h
      · rw [List.getElem?_eq_none h] at hj; cases hj
    have key : ∀ (l : List α) (j : Nat) (x : α), l[j]? = some x → ∀ i u, (D.enc x)[i]? = some u → (l.flatMap D.enc)[j * D.sz + i]? = some u := by
      intro l
      induction l with
      | nil => intro j x hj; simp at hj
      | cons y r ih =>
        intro j x hj i u hu
        rw [List.flatMap_cons]
        cases j with
        | zero =>
          simp at hj; subst hj
          rw [Nat.zero_mul, Nat.zero_add, List.getElem?_append_left (by rcases Nat.lt_or_ge i (D.enc y).length with h | h; exact h; rw [List.getElem?_eq_none h] at hu; cases hu)]; exact hu
        | succ j =>
          rw [List.getElem?_append_right (by rw [D.len, Nat.add_mul]; omega), D.len, show (j + 1) * D.sz + i - D.sz = j * D.sz + i by rw [Nat.add_mul]; omega]
          exact ih j x (by simpa using hj) i u hu
    exact key l j x hj i u hu

end Go.Gx
