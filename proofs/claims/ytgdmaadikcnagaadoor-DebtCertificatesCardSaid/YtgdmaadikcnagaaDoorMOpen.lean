/- Merged texts: Open. -/
import Derived.Test.YtgdmaadikcnagaaDoorMF
import Derived.Test.YtgdmaadikcnagaaDoorMG1
/- Flat types opened: written by rows.py (a program of this claim). -/
namespace Go.Proofs.YtgdmaadikcnagaaDoor
open Go Go.Gx Go.RowKit
set_option linter.unusedVariables false
set_option linter.unusedSimpArgs false
section
variable {H : Type} {enc : TypeId × Value → H} {w : World} {cs : List Value}
def ok99 (x : GArr3Int) : Prop := inI x.a0 ∧ inI x.a1 ∧ inI x.a2
theorem cells3 : Program.cellsOf Tryd.prog 3 = 1 := by kernel_rfl
theorem cells99 : Program.cellsOf Tryd.prog 99 = 3 := by kernel_rfl
theorem open99 (h : TR enc Tryd.prog w 99 cs) : ∃ x : GArr3Int, cs = x.enc ∧ ok99 x := by
  obtain ⟨hl, hf⟩ := h.arr Tryd.underlying99
  obtain ⟨x0, e0, k0⟩ := TR.int64 Tryd.underlying3 (hf 0 (by decide))
  obtain ⟨x1, e1, k1⟩ := TR.int64 Tryd.underlying3 (hf 1 (by decide))
  obtain ⟨x2, e2, k2⟩ := TR.int64 Tryd.underlying3 (hf 2 (by decide))
  simp only [cells3, Nat.zero_mul, Nat.one_mul, Nat.reduceMul] at e0 e1 e2
  have e := join_cons rfl e0 (join_cons rfl e1 (join_cons rfl e2 (join_nil hl cells99)))
  exact ⟨⟨x0, x1, x2⟩, e, k0, k1, k2⟩
def ok100 (x : GArr2Int) : Prop := inI x.a0 ∧ inI x.a1
theorem cells100 : Program.cellsOf Tryd.prog 100 = 2 := by kernel_rfl
theorem open100 (h : TR enc Tryd.prog w 100 cs) : ∃ x : GArr2Int, cs = x.enc ∧ ok100 x := by
  obtain ⟨hl, hf⟩ := h.arr Tryd.underlying100
  obtain ⟨x0, e0, k0⟩ := TR.int64 Tryd.underlying3 (hf 0 (by decide))
  obtain ⟨x1, e1, k1⟩ := TR.int64 Tryd.underlying3 (hf 1 (by decide))
  simp only [cells3, Nat.zero_mul, Nat.one_mul, Nat.reduceMul] at e0 e1
  have e := join_cons rfl e0 (join_cons rfl e1 (join_nil hl cells100))
  exact ⟨⟨x0, x1⟩, e, k0, k1⟩
end
end Go.Proofs.YtgdmaadikcnagaaDoor
