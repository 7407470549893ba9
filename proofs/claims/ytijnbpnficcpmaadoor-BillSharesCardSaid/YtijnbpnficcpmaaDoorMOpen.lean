/- Merged texts: Open. -/
import Derived.Test.YtijnbpnficcpmaaDoorMF
import Derived.Test.YtijnbpnficcpmaaDoorMG2
/- Flat types opened: written by rows.py (a program of this claim). -/
namespace Go.Proofs.YtijnbpnficcpmaaDoor
open Go Go.Gx Go.RowKit
set_option linter.unusedVariables false
set_option linter.unusedSimpArgs false
section
variable {H : Type} {enc : TypeId × Value → H} {w : World} {cs : List Value}
theorem cells3 : Program.cellsOf Tryd.prog 3 = 1 := by kernel_rfl
end
end Go.Proofs.YtijnbpnficcpmaaDoor
