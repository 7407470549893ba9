/- Flat types opened: written by rows.py (a program of this claim). -/
import Derived.Test.YtaoicaldhllbfaaFacts
import Derived.Test.YtaoicaldhllbfaaGxRow
namespace Go.Proofs.Ytaoicaldhllbfaa
open Go Go.Gx Go.RowKit
set_option linter.unusedVariables false
set_option linter.unusedSimpArgs false
section
variable {H : Type} {enc : TypeId × Value → H} {w : World} {cs : List Value}
theorem cells3 : Program.cellsOf Try.prog 3 = 1 := by kernel_rfl
theorem cells42 : Program.cellsOf Try.prog 42 = 2 := by kernel_rfl
end
end Go.Proofs.Ytaoicaldhllbfaa
