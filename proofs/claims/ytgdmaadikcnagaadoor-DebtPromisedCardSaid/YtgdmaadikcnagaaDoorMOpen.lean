/- Merged texts: Open. -/
import Derived.Test.YtgdmaadikcnagaaDoorMF
import Derived.Test.YtgdmaadikcnagaaDoorMG1
/- Flat types opened: written by rows.py (a program of this claim). -/
namespace Go.Proofs.YtgdmaadikcnagaaDoor
open Go Go.Gx Go.RowKit
set_option linter.unusedVariables false
set_option linter.unusedSimpArgs false
section
variable {H : Type} {enc : TypeId × Value → H} {w : World} {cs : List Value}
def ok107 (x : GArr8Int) : Prop := inI x.a0 ∧ inI x.a1 ∧ inI x.a2 ∧ inI x.a3 ∧ inI x.a4 ∧ inI x.a5 ∧ inI x.a6 ∧ inI x.a7
theorem cells3 : Program.cellsOf Tryd.prog 3 = 1 := by kernel_rfl
theorem cells107 : Program.cellsOf Tryd.prog 107 = 8 := by kernel_rfl
theorem open107 (h : TR enc Tryd.prog w 107 cs) : ∃ x : GArr8Int, cs = x.enc ∧ ok107 x := by
  obtain ⟨hl, hf⟩ := h.arr Tryd.underlying107
  obtain ⟨x0, e0, k0⟩ := TR.int64 Tryd.underlying3 (hf 0 (by decide))
  obtain ⟨x1, e1, k1⟩ := TR.int64 Tryd.underlying3 (hf 1 (by decide))
  obtain ⟨x2, e2, k2⟩ := TR.int64 Tryd.underlying3 (hf 2 (by decide))
  obtain ⟨x3, e3, k3⟩ := TR.int64 Tryd.underlying3 (hf 3 (by decide))
  obtain ⟨x4, e4, k4⟩ := TR.int64 Tryd.underlying3 (hf 4 (by decide))
  obtain ⟨x5, e5, k5⟩ := TR.int64 Tryd.underlying3 (hf 5 (by decide))
  obtain ⟨x6, e6, k6⟩ := TR.int64 Tryd.underlying3 (hf 6 (by decide))
  obtain ⟨x7, e7, k7⟩ := TR.int64 Tryd.underlying3 (hf 7 (by decide))
  simp only [cells3, Nat.zero_mul, Nat.one_mul, Nat.reduceMul] at e0 e1 e2 e3 e4 e5 e6 e7
  have e := join_cons rfl e0 (join_cons rfl e1 (join_cons rfl e2 (join_cons rfl e3 (join_cons rfl e4 (join_cons rfl e5 (join_cons rfl e6 (join_cons rfl e7 (join_nil hl cells107))))))))
  exact ⟨⟨x0, x1, x2, x3, x4, x5, x6, x7⟩, e, k0, k1, k2, k3, k4, k5, k6, k7⟩
def ok100 (x : GArr2Int) : Prop := inI x.a0 ∧ inI x.a1
theorem cells100 : Program.cellsOf Tryd.prog 100 = 2 := by kernel_rfl
theorem open100 (h : TR enc Tryd.prog w 100 cs) : ∃ x : GArr2Int, cs = x.enc ∧ ok100 x := by
  obtain ⟨hl, hf⟩ := h.arr Tryd.underlying100
  obtain ⟨x0, e0, k0⟩ := TR.int64 Tryd.underlying3 (hf 0 (by decide))
  obtain ⟨x1, e1, k1⟩ := TR.int64 Tryd.underlying3 (hf 1 (by decide))
  simp only [cells3, Nat.zero_mul, Nat.one_mul, Nat.reduceMul] at e0 e1
  have e := join_cons rfl e0 (join_cons rfl e1 (join_nil hl cells100))
  exact ⟨⟨x0, x1⟩, e, k0, k1⟩
end
end Go.Proofs.YtgdmaadikcnagaaDoor
