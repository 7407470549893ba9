/-
  More operations, once more.
-/
import Derived.Test.YteplelijhkmbkaaDoorGxOps2
import Derived.Test.YteplelijhkmbkaaDoorGxDraw
namespace Go.Gx
open Go Go.RowKit
set_option linter.unusedVariables false
set_option linter.unusedSimpArgs false

theorem r_sliceHiE {P : Program} {ρ : Operand → Value} {w : World} {d : Option Tmp} {ty : TypeId} {pos : String} {af : Array Edge} {g : Option (Nat × Bool)} {T : TypeId} {s : Operand} {α : Type} {D : Ty α} {v : Value} {l : List α} {e : TypeId} {ag : Bool} {b : Operand} {k' : IntKind} {hi : Int} [hT : IsSlice P T e] [hS : TF P e ag D.sz] (hR : Rd D w v l) (h1 : ρ s = v) (h3 : ρ b = .int k' hi)
    (h4 : 0 ≤ hi) (h5 : hi ≤ l.length) : ∃ v' w', Runs P ρ ⟨d, .slice T s none (some b) none, ty, pos, af, g⟩ w (.ok (.value v') w') ∧ (w' = w ∧ ∃ A c, v' = .slice A (l.take hi.toNat).length c ∧ v' = sliceV v 0 hi.toNat D.sz) := by
  have hc := hR.cut (lo := 0) (hi := hi.toNat) (by omega) (by omega)
  rw [List.drop_zero] at hc
  obtain ⟨A, c, e⟩ := hc.len
  exact ⟨_, w, r_sliceHi hR h1 h3 h4 h5, rfl, A, c, e, rfl⟩
theorem r_indexAddrArrE {P : Program} {ρ : Operand → Value} {w : World} {d : Option Tmp} {ty : TypeId} {pos : String} {af : Array Edge} {g : Option (Nat × Bool)} {T : TypeId} {s t : Operand} {v : Value} {z j n sz : Nat} {k : IntKind} {i : Int} {e : TypeId} {ag : Bool} [hT : IsArr P T n e] [hS : TF P e ag sz] (h1 : ρ s = .pointer (some (elemAddr v z j))) (h2 : ρ t = .int k i) (h0 : 0 ≤ i) (hl : i < n) :
    Runs P ρ ⟨d, .indexAddr T s t, ty, pos, af, g⟩ w (.ok (.value (.pointer (some ((elemAddr v z j).add (i.toNat * sz))))) w) := r_indexAddrArr h1 h2 h0 hl
theorem r_nilCheck {P : Program} {ρ : Operand → Value} {w : World} {d : Option Tmp} {ty : TypeId} {pos : String} {af : Array Edge} {g : Option (Nat × Bool)} {s : Operand} {a : Addr} (h1 : ρ s = .pointer (some a)) :
    Runs P ρ ⟨d, .nilCheck s, ty, pos, af, g⟩ w (.ok (.value (.pointer (some a))) w) := ⟨by simp [execOp, h1, pure, bind, Sem.bind, Sem.run]⟩
/-- A method bound to its receiver. -/
theorem r_makeFnB1 {P : Program} {ρ : Operand → Value} {w : World} {d : Option Tmp} {ty : TypeId} {pos : String} {af : Array Edge} {g : Option (Nat × Bool)} {f : Fn} {a0 : Operand} {v0 : Value} (h0 : ρ a0 = v0) : Runs P ρ ⟨d, .makeFunc f #[a0] #[], ty, pos, af, g⟩ w (.ok (.value (.func f #[v0] [].toArray)) w) :=
  ⟨by simp [execOp, Instr.makeFunc, pure, bind, Sem.bind, Sem.run, h0]⟩
theorem r_callB2 {P : Program} {ρ : Operand → Value} {w : World} {d : Option Tmp} {ty : TypeId} {pos : String} {af : Array Edge} {g : Option (Nat × Bool)} {f : FuncId} {fo : Operand} {a0 a1 : Operand} {r v0 v1 : Value} {cl : List Value} {ats : Array TypeId} (hf : ρ fo = .func (.func f) #[r] cl.toArray) [he : Enters P f] (h0 : ρ a0 = v0) (h1 : ρ a1 = v1) :
    Runs P ρ ⟨d, .call { callee := .value fo, args := #[a0, a1], argTypes := ats }, ty, pos, af, g⟩ w (.ok (.enter f (r :: v0 :: v1 :: cl).toArray) w) :=
  ⟨by
    have e := he.out (r :: v0 :: v1 :: cl).toArray w
    simp only [execOp, resolve, hf, Deferred.ofValue, List.map_toArray, List.map_cons, List.map_nil, h0, h1] at *
    simpa [invoke, bind, Sem.bind, pure] using e⟩
/-- A call that may write what is told. -/
structure CallsW (P : Program) (f : FuncId) (args : Array Value) (w : World) (R : Value → World → Prop) : Prop where mk :: (out : Calls P f args w fun e w' => ∃ v, e = .returned v ∧ R v w')
theorem st_callW {P : Program} {n : Nat} {ops : Array Oper} {Q : Post} {σ : Nat → Value} {w : World} {o : Oper} {rest : List Oper} {f : FuncId} {args : Array Value} {R : Value → World → Prop} (hw : wantS o ops n σ = true) (hrun : Runs P (opv (cut n σ)) o w (.ok (.enter f args) w))
    (hc : CallsW P f args w R) (k : ∀ v w1, R v w1 → wl P n ops Q rest (updO σ o.dst v) w1) : wl P n ops Q (o :: rest) σ w :=
  st_enter hw hrun hc.out fun _ w1 ⟨v, he, hR⟩ => ⟨v, he, k v w1 hR⟩
/-! Results of any kind. -/
theorem mapM_two {α β : Type} {f : α → Sem β} {a a2 : α} {b b2 : β} {P : Program} {w w1 w2 : World} (h : (f a).run P w = .ok b w1) (h2 : (f a2).run P w1 = .ok b2 w2) : (#[a, a2].mapM f).run P w = .ok #[b, b2] w2 := by
  have e : (#[a, a2] : Array α).mapM f = (do let l ← [a, a2].mapM f; pure l.toArray) := by
    rw [Array.mapM_eq_mapM_toList]; rfl
  rw [e, List.mapM_cons, List.mapM_cons]
  simp only [List.mapM_nil, bind_assoc, pure_bind]
  exact (run_bind h).trans ((run_bind h2).trans rfl)
theorem mapM_three {α β : Type} {f : α → Sem β} {a a2 a3 : α} {b b2 b3 : β} {P : Program} {w w1 w2 w3 : World} (h : (f a).run P w = .ok b w1) (h2 : (f a2).run P w1 = .ok b2 w2) (h3 : (f a3).run P w2 = .ok b3 w3) : (#[a, a2, a3].mapM f).run P w = .ok #[b, b2, b3] w3 := by
  have e : (#[a, a2, a3] : Array α).mapM f = (do let l ← [a, a2, a3].mapM f; pure l.toArray) := by
    rw [Array.mapM_eq_mapM_toList]; rfl
  rw [e, List.mapM_cons, List.mapM_cons, List.mapM_cons]
  simp only [List.mapM_nil, bind_assoc, pure_bind]
  exact (run_bind h).trans ((run_bind h2).trans ((run_bind h3).trans rfl))
theorem loadVarA {P : Program} {T sz b i : Nat} {w0 w : World} {os : List Ob} {T' : TypeId} {cs : List Value} [hT : TF P T true sz] (S : St w0 w os) (hi : os[i]? = some (.var b T' cs)) (hl : cs.length = sz) : (do loadVar T (← asAddr (.pointer (some ⟨b, 0, none⟩))) : Sem Value).run P w = .ok (.agg cs.toArray) w := by
  have hc := S.var hi
  have hl' : (loadCells ⟨b, 0, none⟩ sz).run P w = .ok cs.toArray w := by subst hl; exact run_loadCells_list (P := P) (w := w) _ cs hc.2.2
  refine (run_bind (a := (⟨b, 0, none⟩ : Addr)) rfl).trans ?_
  simp only [loadVar]
  refine (run_bind (hT.isAgg w)).trans ?_
  refine (run_bind (hT.sizeOf w)).trans ?_
  exact run_bind hl'
theorem loadVar1 {P : Program} {T b i : Nat} {w0 w : World} {os : List Ob} {T' : TypeId} {v : Value} [hT : TF P T false 1] (S : St w0 w os) (hi : os[i]? = some (.var b T' [v])) : (do loadVar T (← asAddr (.pointer (some ⟨b, 0, none⟩))) : Sem Value).run P w = .ok v w := by
  have hc := S.var hi
  refine (run_bind (a := (⟨b, 0, none⟩ : Addr)) rfl).trans ?_
  simp only [loadVar]
  refine (run_bind (hT.isAgg w)).trans ?_
  have := hc.2.2 0 v rfl
  rw [add_zero] at this
  exact run_load1 this
/-- The first result lies in a variable, the second in a slot. -/
theorem endCT {P : Program} {fn : Func} {n : Nat} {R : Ending → World → Prop} {σ : Nat → Value} {w0 w : World} {t u T sz b i : Nat} {os : List Ob} {T' : TypeId} {cs : List Value} {v2 : Value} [hT : TF P T true sz]
    (hr : fn.results = #[.cell t T, .tmp u]) (hv : cut n σ t = .pointer (some ⟨b, 0, none⟩)) (hv2 : cut n σ u = v2) (S : St w0 w os) (hi : os[i]? = some (.var b T' cs)) (hl : cs.length = sz) (h : R (.returned (.tuple #[.agg cs.toArray, v2])) w) : endQ P fn n R .ret σ w := by
  refine endC ?_ h
  unfold results
  rw [hr]
  refine (run_bind (mapM_two (b := .agg cs.toArray) (b2 := v2) (w1 := w) (w2 := w) ?_ ?_)).trans rfl
  · show (do loadVar T (← asAddr ((Fr n σ).tmps.getD t undef)) : Sem Value).run P w = _
    rw [Fr_getD, hv]
    exact loadVarA S hi hl
  · show (pure ((Fr n σ).tmps.getD u undef) : Sem Value).run P w = _
    rw [Fr_getD, hv2]; rfl
end Go.Gx
