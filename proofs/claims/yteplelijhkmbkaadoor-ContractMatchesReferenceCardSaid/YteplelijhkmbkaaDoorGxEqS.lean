/-
  '==' of structs.
-/
import Derived.Test.YteplelijhkmbkaaDoorGxMem2
import Derived.Laws.StructEq
namespace Go.Gx
open Go Go.RowKit
set_option linter.unusedSimpArgs false
set_option linter.unusedVariables false

section
variable {P : Program} {d : Nat} {xs ys : Array Value} {f : Field} {fs : List Field} {a b : Value} {r s : Bool} {w : World} {T : TypeId}
theorem ef_nil : (Op.eqFields d xs ys []).run P w = .ok true w := by simp [Op.eqFields]
theorem ef_cons (hn : (f.name == "_") = false) (ha : (part f.type xs f.offset).run P w = .ok a w) (hb : (part f.type ys f.offset).run P w = .ok b w) (he : (Op.equalIn d f.type a b).run P w = .ok r w)
    (hr : (Op.eqFields d xs ys fs).run P w = .ok s w) : (Op.eqFields d xs ys (f :: fs)).run P w = .ok (r && s) w := by
  have hn' : f.name ≠ "_" := by simpa using hn
  rw [Op.eqFields]
  simp only [if_pos hn', Sem.run_bind, ha, hb, he, Result.andThen_ok]
  cases r
  · simp
  · simpa using hr
theorem part1 {off : Nat} {v : Value} [hT : TF P T false 1] (h : xs[off]? = some v) : (part T xs off).run P w = .ok v w := by
  unfold part; refine (run_bind (hT.isAgg w)).trans ?_; simp [h]
theorem partA {off sz : Nat} {cs : Array Value} [hT : TF P T true sz] (h : xs.extract off (off + sz) = cs) : (part T xs off).run P w = .ok (.agg cs) w := by
  unfold part; refine (run_bind (hT.isAgg w)).trans ?_; refine (run_bind (hT.sizeOf w)).trans ?_; rw [h]; rfl
theorem eqInt {k k' : IntKind} {x y : Int} [hT : IsInt P T k] (hd : 1 ≤ d) : (Op.equalIn d T (.int k' x) (.int k' y)).run P w = .ok (decide (x = y)) w := by
  obtain ⟨e, rfl⟩ : ∃ e, d = e + 1 := ⟨d - 1, by omega⟩
  exact run_equalIn_int w e T k' k x y hT.out
theorem eqBool {x y : Bool} [hT : IsBool P T] (hd : 1 ≤ d) : (Op.equalIn d T (.bool x) (.bool y)).run P w = .ok (decide (x = y)) w := by
  obtain ⟨e, rfl⟩ : ∃ e, d = e + 1 := ⟨d - 1, by omega⟩
  exact run_equalIn_bool' w e T x y hT.out
theorem eqStr {x y : ByteArray} [hT : IsStr P T] (hd : 1 ≤ d) : (Op.equalIn d T (.string x) (.string y)).run P w = .ok (decide (x = y)) w := by
  obtain ⟨e, rfl⟩ : ∃ e, d = e + 1 := ⟨d - 1, by omega⟩
  rw [run_equalIn_string w e T x y hT.out, ← beq_toListBytes]
  congr 1
  show (x.data == y.data) = decide (x = y)
  rw [Bool.eq_iff_iff]
  constructor
  · intro h; exact decide_eq_true (ByteArray.ext (by simpa using h))
  · intro h; rw [of_decide_eq_true h]; simp
theorem eqStruct {fs : Array Field} (hu : P.underlying T = some (.struct fs)) (hp : P.stoodInHeld T = false) (hd : 1 ≤ d) (h : (Op.eqFields (d - 1) xs ys fs.toList).run P w = .ok r w) : (Op.equalIn d T (.agg xs) (.agg ys)).run P w = .ok r w := by
  obtain ⟨e, rfl⟩ : ∃ e, d = e + 1 := ⟨d - 1, by omega⟩
  have hf : P.fieldsOf T = fs := by simp [Program.fieldsOf, hu]
  rw [run_equalIn_struct (P := P) w e T xs ys (by rw [hf]; exact hu) hp, hf]
  exact h
end
section
variable {P : Program} {ρ : Operand → Value} {w : World} {d : Option Tmp} {ty : TypeId} {pos : String} {af : Array Edge} {g : Option (Nat × Bool)} {T T' : TypeId} {s t : Operand} {xs ys : Array Value} {b : Bool}
theorem r_eqlAgg (h1 : ρ s = .agg xs) (h2 : ρ t = .agg ys) (hg : P.eqGuardType P.depth T = false) (hE : (Op.equalIn 10000 T (.agg xs) (.agg ys)).run P w = .ok b w) : Runs P ρ ⟨d, .binOp .eql T s t T', ty, pos, af, g⟩ w (.ok (.value (.bool b)) w) := ⟨by
  simp only [execOp, h1, h2]
  refine run_bind (a := Value.bool b) ?_
  refine (run_bind (run_eqGuard_agg w .eql T s t xs ys hg)).trans ?_
  rw [run_eql_struct, hE]; rfl⟩
theorem r_neqAgg (h1 : ρ s = .agg xs) (h2 : ρ t = .agg ys) (hg : P.eqGuardType P.depth T = false) (hE : (Op.equalIn 10000 T (.agg xs) (.agg ys)).run P w = .ok b w) : Runs P ρ ⟨d, .binOp .neq T s t T', ty, pos, af, g⟩ w (.ok (.value (.bool (!b))) w) := ⟨by
  simp only [execOp, h1, h2]
  refine run_bind (a := Value.bool (!b)) ?_
  refine (run_bind (run_eqGuard_agg w .neq T s t xs ys hg)).trans ?_
  rw [run_neq_struct, hE]; rfl⟩
end
end Go.Gx
