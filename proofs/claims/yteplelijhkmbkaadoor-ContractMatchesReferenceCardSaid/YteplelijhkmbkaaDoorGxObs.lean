/-
  Objects of a call, told in another order; rows of rows.
-/
import Derived.Test.YteplelijhkmbkaaDoorGxOps3
import Derived.Lib.SliceRun
namespace Go.Gx
open Go Go.RowKit
set_option linter.unusedVariables false
set_option linter.unusedSimpArgs false

theorem St.perm {w0 w : World} {os os' : List Ob} (S : St w0 w os) (h : os.Perm os') : St w0 w os' :=
  ⟨S.below, fun o ho => S.ok o (h.mem_iff.2 ho), h.pairwise S.apart fun {a b} hab => by
    rcases hab with h | h
    · cases hb : b.blk with
      | none => exact .inl rfl
      | some k => rw [h]; exact .inr (by simp)
    · exact .inr (Ne.symm h)⟩
theorem St.front {w0 w : World} {os : List Ob} {o : Ob} (S : St w0 w (os ++ [o])) : St w0 w (o :: os) := S.perm (List.perm_append_singleton _ _)
/-- The first object is set behind a known list. -/
theorem St.into {w0 w : World} {os ex : List Ob} {o : Ob} (S : St w0 w (o :: (os ++ ex))) : St w0 w (os ++ (o :: ex)) := S.perm List.perm_middle.symm
theorem St.outof {w0 w : World} {os ex : List Ob} {o : Ob} (S : St w0 w (os ++ (o :: ex))) : St w0 w (o :: (os ++ ex)) := S.perm List.perm_middle
theorem St.tail {w0 w : World} {os : List Ob} {o : Ob} (S : St w0 w (o :: os)) : St w0 w os := S.sub (List.sublist_cons_self _ _)
theorem St.eqos {w0 w : World} {os os' : List Ob} (S : St w0 w os) (h : os = os') : St w0 w os' := h ▸ S

/-- Cells that hold one value each. -/
def fVal : Flat Value := ⟨1, fun v => [v], fun _ => rfl⟩
/-- Rows whose headers are the values vs. -/
def rowsOb {α : Type} (D : Flat α) (T : TypeId) (vs : List Value) (g : List (List α)) : List Ob := List.zipWith (fun v r => rowOb D T v r) vs g
theorem rowsOb_get {α : Type} {D : Flat α} {T : TypeId} {vs : List Value} {g : List (List α)} (h : vs.length = g.length) {k : Nat} (hk : k < g.length) : (rowsOb D T vs g)[k]? = some (rowOb D T (vs.getD k default) (g.getD k [])) := by
  unfold rowsOb
  rw [List.getElem?_zipWith]
  have h1 : k < vs.length := by omega
  simp [List.getD, List.getElem?_eq_getElem h1, List.getElem?_eq_getElem hk]
theorem rowsOb_set {α : Type} {D : Flat α} {T : TypeId} : ∀ {vs : List Value} {g : List (List α)} {k : Nat} {v : Value} {r : List α}, (rowsOb D T vs g).set k (rowOb D T v r) = rowsOb D T (vs.set k v) (g.set k r)
  | [], g, k, v, r => by simp [rowsOb]
  | v0 :: vs, [], k, v, r => by simp [rowsOb]
  | v0 :: vs, r0 :: g, 0, v, r => by simp [rowsOb]
  | v0 :: vs, r0 :: g, k + 1, v, r => by
    have := rowsOb_set (D := D) (T := T) (vs := vs) (g := g) (k := k) (v := v) (r := r)
    unfold rowsOb at *
    simp only [List.zipWith_cons_cons, List.set_cons_succ, this]
theorem rowsOb_length {α : Type} {D : Flat α} {T : TypeId} {vs : List Value} {g : List (List α)} (h : vs.length = g.length) : (rowsOb D T vs g).length = g.length := by simp [rowsOb, h]
theorem nth_vs {vs : List Value} {i : Int} : nth vs i = vs.getD i.toNat default := rfl
section
variable {P : Program} {ρ : Operand → Value} {w w0 : World} {d : Option Tmp} {ty : TypeId} {pos : String} {af : Array Edge} {g : Option (Nat × Bool)} {T T' : TypeId} {s t : Operand} {os : List Ob}
/-- A slice is compared with nil. -/
theorem r_eqlNil {e : TypeId} {A : Option Addr} {n c : Nat} [hT : IsSlice P T e] (h1 : ρ s = .slice A n c) (h2 : ρ t = .slice none 0 0) : Runs P ρ ⟨d, .binOp .eql T s t T', ty, pos, af, g⟩ w (.ok (.value (.bool A.isNone)) w) := ⟨by
  have := Lib.run_eql_slice_nil (P := P) w T e A n c 0 0 hT.out
  simp only [execOp, h1, h2]
  exact run_bind this⟩
/-- An empty literal. -/
theorem r_lit0 {α : Type} {D : Flat α} {e : TypeId} {bytes : Nat} {z : Value} [hT : IsSlice P T e] [hI : TI P e z D.sz bytes] (S : St w0 w os) :
    ∃ v' w', Runs P ρ ⟨d, .buildSlice T 0 #[], ty, pos, af, g⟩ w (.ok (.value v') w') ∧ Below w.heap.size w w' ∧ St w0 w' (os ++ [rowOb D e v' ([] : List α)]) := by
  obtain ⟨i, hi, hz', hs, _⟩ := hI.out
  refine ⟨.slice (some ⟨w.heap.size, 0, none⟩) 0 0, w.alloc (.cells #[] e), ⟨?_⟩, below_alloc _ _, S.new (below_alloc _ _) ?_⟩
  · simp only [execOp, Instr.buildSlice]
    refine run_bind (a := Value.slice (some ⟨w.heap.size, 0, none⟩) 0 0) ?_
    refine (run_bind (run_underlying' hT.out)).trans ?_
    refine (run_bind (run_sizeOf' hi)).trans ?_
    have hle : ¬ (0 > 2 ^ 24) := by decide
    simp only [Nat.zero_mul, hle, if_false, if_true]
    refine (run_bind (a := #[]) rfl).trans ?_
    have hf : Instr.fill (fun j => some (j * i.size, i.size)) ((Array.range 0).map fun x => (#[] : Array Value)[x % (#[] : Array Value).size]!) (Array.map (fun x : Nat × Operand => (x.1, ρ x.2)) #[]).toList = some #[] := by simp [Instr.fill]
    simp only [hf]
    rfl
  · exact ⟨by simp [fl], .inr ⟨w.heap.size, 0, #[], rfl, Nat.le_refl _, by simpa using heap_alloc_new w (.cells #[] e), Nat.zero_le _, Nat.zero_le _, by simp, by simp [fl]⟩⟩
end
theorem fl_setF {α : Type} (D : Flat α) (x' : α) (off : Nat) (vs : List Value) (hf : off + vs.length ≤ D.sz) : ∀ (l : List α) (i : Nat) (x : α), l[i]? = some x → D.enc x' = splice (D.enc x) off vs → splice (fl D l) (i * D.sz + off) vs = fl D (l.set i x') := by
  intro l
  induction l with
  | nil => intro i x hx; simp at hx
  | cons y r ih =>
    intro i x hx he
    cases i with
    | zero =>
      simp at hx; subst hx
      simp only [splice, fl, List.flatMap_cons, List.set_cons_zero, Nat.zero_mul, Nat.zero_add] at he ⊢
      rw [he, List.take_append_of_le_length (by rw [D.len]; omega), List.drop_append_of_le_length (by rw [D.len]; omega)]
      simp only [List.append_assoc]
    | succ i =>
      have h := ih i x (by simpa using hx) he
      have e1 : (i + 1) * D.sz + off = D.sz + (i * D.sz + off) := by rw [Nat.add_mul]; omega
      simp only [splice, fl, List.flatMap_cons, List.set_cons_succ] at h ⊢
      rw [← h, e1, List.take_append, D.len, List.drop_append, D.len]
      rw [List.take_of_length_le (by rw [D.len]; omega), List.drop_eq_nil_of_le (by rw [D.len]; omega)]
      simp only [List.nil_append, List.append_assoc]
      congr 3
      · omega
      · rw [show D.sz + (i * D.sz + off) + vs.length - D.sz = i * D.sz + off + vs.length by omega]
section
variable {P : Program} {ρ : Operand → Value} {w w0 : World} {d : Option Tmp} {ty : TypeId} {pos : String} {af : Array Edge} {g : Option (Nat × Bool)} {T T' : TypeId} {s t : Operand} {os : List Ob}
/-- A field of an element of a row is set. -/
theorem r_storeElemF {α : Type} [Inhabited α] {D : Flat α} {i off sz : Nat} {T' : TypeId} {l : List α} {x : α} {v u : Value} {j : Int} {ag : Bool} [hS : TF P T ag sz] (S : St w0 w os) (hi : os[i]? = some (rowOb D T' v l)) (h1 : ρ s = .pointer (some ((elemAddr v D.sz j.toNat).add off))) (h2 : ρ t = u)
    (hz : u.cells.size = sz) (hu : D.enc x = splice (D.enc (nth l j)) off u.cells.toList) (hf : off + sz ≤ D.sz) (h1c : ∀ c ∈ u.cells.toList, c.oneCell' = true) (h0 : 0 ≤ j) (hl : j < l.length) :
    ∃ w', Runs P ρ ⟨d, .store T s t, ty, pos, af, g⟩ w (.ok .skip w') ∧ St w0 w' (os.set i (rowOb D T' v (l.set j.toNat x))) := by
  have how : w.ownsRow w0.heap.size T' D.sz v l.length (fl D l) := S.ok _ (mem_of_get hi)
  obtain ⟨b, cap, rfl, _, _⟩ := how.form (by omega)
  have ha : (elemAddr (.slice (some ⟨b, 0, none⟩) l.length cap) D.sz j.toNat).add off = ⟨b, j.toNat * D.sz + off, none⟩ := by
    show ((⟨b, 0, none⟩ : Addr).add _).add _ = _
    rw [add_add, add_lit, Nat.zero_add]
  rw [ha] at h1
  have hjl : j.toNat < l.length := by omega
  have hfit : j.toNat * D.sz + off + sz ≤ (fl D l).length := by
    have : (j.toNat + 1) * D.sz ≤ l.length * D.sz := Nat.mul_le_mul_right _ hjl
    rw [fl_length]; rw [Nat.add_mul] at this; omega
  have := r_storeRow (P := P) (ρ := ρ) (d := d) (ty := ty) (pos := pos) (af := af) (g := g) (T := T) (s := s) (t := t) S hi h1 h2 hz hfit h1c
  rw [fl_setF D x off u.cells.toList (by rw [Array.length_toList, hz]; exact hf) l j.toNat (nth l j) (nth_get h0 hl) hu] at this
  simpa [rowOb] using this
/-- A slice from lo on. -/
theorem r_sliceLoE {α : Type} {D : Ty α} {v : Value} {l : List α} {e : TypeId} {ag : Bool} {a : Operand} {k : IntKind} {lo : Int} [hT : IsSlice P T e] [hS : TF P e ag D.sz] (hR : Rd D w v l) (h1 : ρ s = v) (h2 : ρ a = .int k lo) (h0 : 0 ≤ lo) (h5 : lo ≤ l.length) :
    ∃ v' w', Runs P ρ ⟨d, .slice T s (some a) none none, ty, pos, af, g⟩ w (.ok (.value v') w') ∧ (w' = w ∧ Rd D w v' (l.drop lo.toNat)) := by
  have hc := hR.cut (lo := lo.toNat) (hi := l.length) (by omega) (Nat.le_refl _)
  rw [List.take_length] at hc
  exact ⟨_, w, r_sliceLo hR h1 h2 h0 h5, rfl, hc⟩
end
theorem tdiv_bound {x y : Int} (h : 0 < y) : (0 ≤ x → 0 ≤ x.tdiv y ∧ x.tdiv y ≤ x) ∧ (x ≤ 0 → x ≤ x.tdiv y ∧ x.tdiv y ≤ 0) := by
  have key : ∀ z : Int, 0 ≤ z → 0 ≤ z.tdiv y ∧ z.tdiv y ≤ z := fun z hz => by
    rw [Int.tdiv_eq_ediv_of_nonneg hz]
    exact ⟨Int.ediv_nonneg hz (Int.le_of_lt h), Int.ediv_le_self y hz⟩
  refine ⟨key x, fun hx => ?_⟩
  have := key (-x) (by omega)
  rw [Int.neg_tdiv] at this
  omega
section
variable {P : Program} {ρ : Operand → Value} {w w0 : World} {d : Option Tmp} {ty : TypeId} {pos : String} {af : Array Edge} {g : Option (Nat × Bool)} {T T' : TypeId} {s t : Operand} {x y : Int}
theorem r_quoT (h1 : ρ s = .int .i64 x) (h2 : ρ t = .int .i64 y) (h0 : -9223372036854775808 ≤ x) (hx : x ≤ 9223372036854775807) (h : 0 < y) : Runs P ρ ⟨d, .binOp .quo T s t T', ty, pos, af, g⟩ w (.ok (.value (.int .i64 (x.tdiv y))) w) := by
  have := r_quo (P := P) (w := w) (d := d) (ty := ty) (pos := pos) (af := af) (g := g) (T := T) (T' := T') h1 h2 (by omega)
  have hb := tdiv_bound (x := x) h
  rwa [wrap_in (by omega) (by omega)] at this
end
end Go.Gx
