/-
  More operations.
-/
import Derived.Test.YteplelijhkmbkaaDoorGxEnd
namespace Go.Gx
open Go Go.RowKit
set_option linter.unusedVariables false
set_option linter.unusedSimpArgs false

section
variable {P : Program} {ρ : Operand → Value} {w : World} {d : Option Tmp} {ty : TypeId} {pos : String} {af : Array Edge} {g : Option (Nat × Bool)} {T T' : TypeId} {s t : Operand} {a b : Bool}
theorem r_eqlB [hT : IsBool P T] (h1 : ρ s = .bool a) (h2 : ρ t = .bool b) : Runs P ρ ⟨d, .binOp .eql T s t T', ty, pos, af, g⟩ w (.ok (.value (.bool (decide (a = b)))) w) := ⟨by
  simp only [execOp, h1, h2]
  refine run_bind (a := Value.bool (decide (a = b))) ?_
  refine (run_bind (a := ()) rfl).trans ?_
  exact (run_bind (eqBool (d := 10000) (P := P) (T := T) (w := w) (x := a) (y := b) (by decide))).trans rfl⟩
theorem r_neqB [hT : IsBool P T] (h1 : ρ s = .bool a) (h2 : ρ t = .bool b) : Runs P ρ ⟨d, .binOp .neq T s t T', ty, pos, af, g⟩ w (.ok (.value (.bool (!decide (a = b)))) w) := ⟨by
  simp only [execOp, h1, h2]
  refine run_bind (a := Value.bool (!decide (a = b))) ?_
  refine (run_bind (a := ()) rfl).trans ?_
  exact (run_bind (eqBool (d := 10000) (P := P) (T := T) (w := w) (x := a) (y := b) (by decide))).trans rfl⟩
end
end Go.Gx
