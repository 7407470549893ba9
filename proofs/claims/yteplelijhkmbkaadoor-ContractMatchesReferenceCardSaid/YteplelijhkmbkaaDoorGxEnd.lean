/-
  A call's end where a result lies in a variable of the call's own.
-/
import Derived.Test.YteplelijhkmbkaaDoorGxEqS
namespace Go.Gx
open Go Go.RowKit
set_option linter.unusedVariables false
set_option linter.unusedSimpArgs false

theorem mapM_one {α β : Type} {f : α → Sem β} {a : α} {b : β} {P : Program} {w w' : World} (h : (f a).run P w = .ok b w') : (#[a].mapM f).run P w = .ok #[b] w' := by
  have e : (#[a] : Array α).mapM f = (do let l ← [a].mapM f; pure l.toArray) := by
    rw [Array.mapM_eq_mapM_toList]; rfl
  rw [e, List.mapM_cons]
  simp only [List.mapM_nil, bind_assoc, pure_bind]
  exact (run_bind h).trans rfl

theorem endCellA {P : Program} {fn : Func} {n : Nat} {R : Ending → World → Prop} {σ : Nat → Value} {w0 w : World} {t T sz b i : Nat} {os : List Ob} {T' : TypeId} {cs : List Value} [hT : TF P T true sz]
    (hr : fn.results = #[.cell t T]) (hv : cut n σ t = .pointer (some ⟨b, 0, none⟩)) (S : St w0 w os) (hi : os[i]? = some (.var b T' cs)) (hl : cs.length = sz) (h : R (.returned (.agg cs.toArray)) w) : endQ P fn n R .ret σ w := by
  refine endC ?_ h
  have hc := S.var hi
  have hl' : (loadCells ⟨b, 0, none⟩ sz).run P w = .ok cs.toArray w := by subst hl; exact run_loadCells_list (P := P) (w := w) _ cs hc.2.2
  unfold results
  rw [hr]
  refine (run_bind (mapM_one (b := .agg cs.toArray) ?_)).trans rfl
  have e : asAddr ((Fr n σ).tmps.getD t undef) = pure (⟨b, 0, none⟩ : Addr) := by rw [Fr_getD, hv]; rfl
  show (do loadVar T (← asAddr ((Fr n σ).tmps.getD t undef)) : Sem Value).run P w = _
  rw [e]
  simp only [loadVar]
  refine (run_bind (a := (⟨b, 0, none⟩ : Addr)) rfl).trans ?_
  refine (run_bind (hT.isAgg w)).trans ?_
  refine (run_bind (hT.sizeOf w)).trans ?_
  exact run_bind hl'
theorem endCell {P : Program} {fn : Func} {n : Nat} {R : Ending → World → Prop} {σ : Nat → Value} {w0 w : World} {t T b i : Nat} {os : List Ob} {T' : TypeId} {v : Value} [hT : TF P T false 1]
    (hr : fn.results = #[.cell t T]) (hv : cut n σ t = .pointer (some ⟨b, 0, none⟩)) (S : St w0 w os) (hi : os[i]? = some (.var b T' [v])) (h : R (.returned v) w) : endQ P fn n R .ret σ w := by
  refine endC ?_ h
  have hc := S.var hi
  unfold results
  rw [hr]
  refine (run_bind (mapM_one (b := v) ?_)).trans rfl
  have e : asAddr ((Fr n σ).tmps.getD t undef) = pure (⟨b, 0, none⟩ : Addr) := by rw [Fr_getD, hv]; rfl
  show (do loadVar T (← asAddr ((Fr n σ).tmps.getD t undef)) : Sem Value).run P w = _
  rw [e]
  simp only [loadVar]
  refine (run_bind (a := (⟨b, 0, none⟩ : Addr)) rfl).trans ?_
  refine (run_bind (hT.isAgg w)).trans ?_
  have := hc.2.2 0 v rfl
  rw [add_zero] at this
  exact run_load1 this

section
variable {P : Program} {ρ : Operand → Value} {w : World} {d : Option Tmp} {ty : TypeId} {pos : String} {af : Array Edge} {g : Option (Nat × Bool)} {T : TypeId} {s : Operand}
theorem r_makeFn0 {f : Fn}  : Runs P ρ ⟨d, .makeFunc f #[] #[], ty, pos, af, g⟩ w (.ok (.value (.func f #[] [].toArray)) w) :=
  ⟨by simp [execOp, Instr.makeFunc, pure, bind, Sem.bind, Sem.run]⟩
theorem r_makeFn1 {f : Fn} {a0 : Operand} {v0 : Value} (h0 : ρ a0 = v0) : Runs P ρ ⟨d, .makeFunc f #[] #[a0], ty, pos, af, g⟩ w (.ok (.value (.func f #[] [v0].toArray)) w) :=
  ⟨by simp [execOp, Instr.makeFunc, pure, bind, Sem.bind, Sem.run, h0]⟩
theorem r_makeFn2 {f : Fn} {a0 a1 : Operand} {v0 v1 : Value} (h0 : ρ a0 = v0) (h1 : ρ a1 = v1) : Runs P ρ ⟨d, .makeFunc f #[] #[a0, a1], ty, pos, af, g⟩ w (.ok (.value (.func f #[] [v0, v1].toArray)) w) :=
  ⟨by simp [execOp, Instr.makeFunc, pure, bind, Sem.bind, Sem.run, h0, h1]⟩
theorem r_makeFn3 {f : Fn} {a0 a1 a2 : Operand} {v0 v1 v2 : Value} (h0 : ρ a0 = v0) (h1 : ρ a1 = v1) (h2 : ρ a2 = v2) : Runs P ρ ⟨d, .makeFunc f #[] #[a0, a1, a2], ty, pos, af, g⟩ w (.ok (.value (.func f #[] [v0, v1, v2].toArray)) w) :=
  ⟨by simp [execOp, Instr.makeFunc, pure, bind, Sem.bind, Sem.run, h0, h1, h2]⟩
theorem r_makeFn4 {f : Fn} {a0 a1 a2 a3 : Operand} {v0 v1 v2 v3 : Value} (h0 : ρ a0 = v0) (h1 : ρ a1 = v1) (h2 : ρ a2 = v2) (h3 : ρ a3 = v3) : Runs P ρ ⟨d, .makeFunc f #[] #[a0, a1, a2, a3], ty, pos, af, g⟩ w (.ok (.value (.func f #[] [v0, v1, v2, v3].toArray)) w) :=
  ⟨by simp [execOp, Instr.makeFunc, pure, bind, Sem.bind, Sem.run, h0, h1, h2, h3]⟩
theorem r_makeFn5 {f : Fn} {a0 a1 a2 a3 a4 : Operand} {v0 v1 v2 v3 v4 : Value} (h0 : ρ a0 = v0) (h1 : ρ a1 = v1) (h2 : ρ a2 = v2) (h3 : ρ a3 = v3) (h4 : ρ a4 = v4) : Runs P ρ ⟨d, .makeFunc f #[] #[a0, a1, a2, a3, a4], ty, pos, af, g⟩ w (.ok (.value (.func f #[] [v0, v1, v2, v3, v4].toArray)) w) :=
  ⟨by simp [execOp, Instr.makeFunc, pure, bind, Sem.bind, Sem.run, h0, h1, h2, h3, h4]⟩
theorem r_makeFn6 {f : Fn} {a0 a1 a2 a3 a4 a5 : Operand} {v0 v1 v2 v3 v4 v5 : Value} (h0 : ρ a0 = v0) (h1 : ρ a1 = v1) (h2 : ρ a2 = v2) (h3 : ρ a3 = v3) (h4 : ρ a4 = v4) (h5 : ρ a5 = v5) : Runs P ρ ⟨d, .makeFunc f #[] #[a0, a1, a2, a3, a4, a5], ty, pos, af, g⟩ w (.ok (.value (.func f #[] [v0, v1, v2, v3, v4, v5].toArray)) w) :=
  ⟨by simp [execOp, Instr.makeFunc, pure, bind, Sem.bind, Sem.run, h0, h1, h2, h3, h4, h5]⟩
theorem r_makeFn7 {f : Fn} {a0 a1 a2 a3 a4 a5 a6 : Operand} {v0 v1 v2 v3 v4 v5 v6 : Value} (h0 : ρ a0 = v0) (h1 : ρ a1 = v1) (h2 : ρ a2 = v2) (h3 : ρ a3 = v3) (h4 : ρ a4 = v4) (h5 : ρ a5 = v5) (h6 : ρ a6 = v6) : Runs P ρ ⟨d, .makeFunc f #[] #[a0, a1, a2, a3, a4, a5, a6], ty, pos, af, g⟩ w (.ok (.value (.func f #[] [v0, v1, v2, v3, v4, v5, v6].toArray)) w) :=
  ⟨by simp [execOp, Instr.makeFunc, pure, bind, Sem.bind, Sem.run, h0, h1, h2, h3, h4, h5, h6]⟩
theorem r_makeFn8 {f : Fn} {a0 a1 a2 a3 a4 a5 a6 a7 : Operand} {v0 v1 v2 v3 v4 v5 v6 v7 : Value} (h0 : ρ a0 = v0) (h1 : ρ a1 = v1) (h2 : ρ a2 = v2) (h3 : ρ a3 = v3) (h4 : ρ a4 = v4) (h5 : ρ a5 = v5) (h6 : ρ a6 = v6) (h7 : ρ a7 = v7) : Runs P ρ ⟨d, .makeFunc f #[] #[a0, a1, a2, a3, a4, a5, a6, a7], ty, pos, af, g⟩ w (.ok (.value (.func f #[] [v0, v1, v2, v3, v4, v5, v6, v7].toArray)) w) :=
  ⟨by simp [execOp, Instr.makeFunc, pure, bind, Sem.bind, Sem.run, h0, h1, h2, h3, h4, h5, h6, h7]⟩
/-- A known cell is read. -/
theorem r_loadAt {b o : Nat} {cs : List Value} {u : Value} [TF P T false 1] (h : CellsAt w ⟨b, 0, none⟩ cs) (h1 : ρ s = .pointer (some ⟨b, o, none⟩)) (hv : cs[o]? = some u) : Runs P ρ ⟨d, .load T s, ty, pos, af, g⟩ w (.ok (.value u) w) := by
  have := h.2.2 o u hv
  rw [add_lit, Nat.zero_add] at this
  exact r_load h1 this
end

section
variable {P : Program} {ρ : Operand → Value} {w : World} {d : Option Tmp} {ty : TypeId} {pos : String} {af : Array Edge} {g : Option (Nat × Bool)} {T T' : TypeId} {s t : Operand} {k k' : IntKind} {x y : Int}
theorem wrap_u64 (z : Int) : IntKind.u64.wrap z = z % 18446744073709551616 := by
  simp [IntKind.wrap, IntKind.signed, IntKind.bits]
theorem r_convI [hS : IsInt P T k] [hT : IsInt P T' .i64] (h1 : ρ s = .int k x) (h0 : -9223372036854775808 ≤ x) (h : x ≤ 9223372036854775807) : Runs P ρ ⟨d, .convert T T' s, ty, pos, af, g⟩ w (.ok (.value (.int .i64 x)) w) := by
  have := r_convert (P := P) (w := w) (d := d) (ty := ty) (pos := pos) (af := af) (g := g) (T := T) (T' := T') h1; rwa [wrap_in h0 h] at this
theorem r_convU [hS : IsInt P T k] [hT : IsInt P T' .u64] (h1 : ρ s = .int k x) (h0 : 0 ≤ x) (h : x ≤ 18446744073709551615) : Runs P ρ ⟨d, .convert T T' s, ty, pos, af, g⟩ w (.ok (.value (.int .u64 x)) w) := by
  have := r_convert (P := P) (w := w) (d := d) (ty := ty) (pos := pos) (af := af) (g := g) (T := T) (T' := T') h1; rwa [wrap_u64, Int.emod_eq_of_lt h0 (by omega)] at this
theorem r_shr1 (h1 : ρ s = .int .u64 x) (h2 : ρ t = .int k' 1) : Runs P ρ ⟨d, .binOp .shr T s t T', ty, pos, af, g⟩ w (.ok (.value (.int .u64 (x / 2))) w) := by
  have := r_shr (P := P) (w := w) (d := d) (ty := ty) (pos := pos) (af := af) (g := g) (T := T) (T' := T') h1 h2 (by omega)
  rwa [show (2 : Int) ^ (min (1 : Int).toNat IntKind.u64.bits) = 2 from rfl, Int.fdiv_eq_ediv_of_nonneg _ (by omega)] at this
end
section
variable {P : Program} {ρ : Operand → Value} {w w0 : World} {d : Option Tmp} {ty : TypeId} {pos : String} {af : Array Edge} {g : Option (Nat × Bool)} {T : TypeId} {os : List Ob}
theorem cellsOf_val {α : Type} {D : Flat α} {val : α → Value} (hval : ∀ x, (val x).cells.toList = D.enc x) (xs : List α) : cellsOf (xs.map val) = fl D xs := by
  induction xs with
  | nil => rfl
  | cons x r ih => simp only [cellsOf, fl, List.map_cons, List.flatMap_cons, hval] at *; rw [ih]
/-- A slice literal of flat elements. -/
theorem r_litF {α : Type} {D : Flat α} {e : TypeId} {bytes m : Nat} {z : Value} {ps : List (Nat × Operand)} (xs : List α) (val : α → Value) [hT : IsSlice P T e] [hI : TI P e z D.sz bytes] (S : St w0 w os)
    (hp : (ps.map fun p => (p.1, ρ p.2)) = parts 0 (xs.map val)) (hm : m = xs.length) (hval : ∀ x, (val x).cells.toList = D.enc x) (hz : z.cells.size = D.sz) (h0 : 0 < m * D.sz) (hb : m * D.sz ≤ 16777216) :
    ∃ v' w', Runs P ρ ⟨d, .buildSlice T m ps.toArray, ty, pos, af, g⟩ w (.ok (.value v') w') ∧ ∃ b, v' = .slice (some ⟨b, 0, none⟩) xs.length xs.length ∧ Below w.heap.size w w' ∧ CellsAt w' ⟨b, 0, none⟩ (fl D xs) ∧ St w0 w' (os ++ [rowOb D e v' xs]) := by
  subst hm
  have h := r_lit (P := P) (ρ := ρ) (d := d) (ty := ty) (pos := pos) (af := af) (g := g) (T := T) (ps := ps.toArray) (vs := xs.map val) (m := xs.length) S (by rw [← hp]; simp) (by simp) hz h0 hb
    (fun v hv => by obtain ⟨x, _, rfl⟩ := List.mem_map.1 hv; have := congrArg List.length (hval x); simpa [D.len] using this)
  rw [cellsOf_val hval] at h
  exact h
end
theorem callsR_val {P : Program} {f : FuncId} {args : Array Value} {w : World} {R : Value → World → Prop} {v : Value} (h : CallsR P f args w R) (hv : ∀ u w', R u w' → u = v) : CallsV P f args w v :=
  ⟨Calls.mono h.out fun _ _ ⟨u, he, hb, hR⟩ => ⟨by rw [he, hv _ _ hR], hb⟩⟩
theorem callsR_mono {P : Program} {f : FuncId} {args : Array Value} {w : World} {R R' : Value → World → Prop} (h : CallsR P f args w R) (hv : ∀ u w', R u w' → R' u w') : CallsR P f args w R' :=
  ⟨Calls.mono h.out fun _ _ ⟨u, he, hb, hR⟩ => ⟨u, he, hb, hv _ _ hR⟩⟩
end Go.Gx
