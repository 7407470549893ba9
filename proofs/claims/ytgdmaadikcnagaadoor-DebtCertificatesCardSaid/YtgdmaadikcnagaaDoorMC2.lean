/- Merged texts: X, Y. -/
import Derived.Test.YtgdmaadikcnagaaDoorMC1
namespace Go.Proofs.YtgdmaadikcnagaaDoor
open Go Go.Gx Go.RowKit
set_option linter.unusedVariables false
set_option linter.unusedSimpArgs false

end Go.Proofs.YtgdmaadikcnagaaDoor
namespace Go.Proofs.YtgdmaadikcnagaaDoor
open Go Go.Gx Go.RowKit
set_option linter.unusedVariables false
set_option linter.unusedSimpArgs false

def okA2 (x : GArr2Int) : Prop := inI x.a0 ∧ inI x.a1
end Go.Proofs.YtgdmaadikcnagaaDoor
