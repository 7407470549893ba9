/- Merged texts: Open. -/
import Derived.Test.YtijnbpnficcpmaaDoorMF
import Derived.Test.YtijnbpnficcpmaaDoorMG1
/- Flat types opened: written by rows.py (a program of this claim). -/
namespace Go.Proofs.YtijnbpnficcpmaaDoor
open Go Go.Gx Go.RowKit
set_option linter.unusedVariables false
set_option linter.unusedSimpArgs false
section
variable {H : Type} {enc : TypeId × Value → H} {w : World} {cs : List Value}
def ok85 (x : GArr8Int) : Prop := inI x.a0 ∧ inI x.a1 ∧ inI x.a2 ∧ inI x.a3 ∧ inI x.a4 ∧ inI x.a5 ∧ inI x.a6 ∧ inI x.a7
theorem cells3 : Program.cellsOf Tryd.prog 3 = 1 := by kernel_rfl
theorem cells85 : Program.cellsOf Tryd.prog 85 = 8 := by kernel_rfl
theorem open85 (h : TR enc Tryd.prog w 85 cs) : ∃ x : GArr8Int, cs = x.enc ∧ ok85 x := by
  obtain ⟨hl, hf⟩ := h.arr Tryd.underlying85
  obtain ⟨x0, e0, k0⟩ := TR.int64 Tryd.underlying3 (hf 0 (by decide))
  obtain ⟨x1, e1, k1⟩ := TR.int64 Tryd.underlying3 (hf 1 (by decide))
  obtain ⟨x2, e2, k2⟩ := TR.int64 Tryd.underlying3 (hf 2 (by decide))
  obtain ⟨x3, e3, k3⟩ := TR.int64 Tryd.underlying3 (hf 3 (by decide))
  obtain ⟨x4, e4, k4⟩ := TR.int64 Tryd.underlying3 (hf 4 (by decide))
  obtain ⟨x5, e5, k5⟩ := TR.int64 Tryd.underlying3 (hf 5 (by decide))
  obtain ⟨x6, e6, k6⟩ := TR.int64 Tryd.underlying3 (hf 6 (by decide))
  obtain ⟨x7, e7, k7⟩ := TR.int64 Tryd.underlying3 (hf 7 (by decide))
  simp only [cells3, Nat.zero_mul, Nat.one_mul, Nat.reduceMul] at e0 e1 e2 e3 e4 e5 e6 e7
  have e := join_cons rfl e0 (join_cons rfl e1 (join_cons rfl e2 (join_cons rfl e3 (join_cons rfl e4 (join_cons rfl e5 (join_cons rfl e6 (join_cons rfl e7 (join_nil hl cells85))))))))
  exact ⟨⟨x0, x1, x2, x3, x4, x5, x6, x7⟩, e, k0, k1, k2, k3, k4, k5, k6, k7⟩
def ok86 (x : GArr2Int) : Prop := inI x.a0 ∧ inI x.a1
theorem cells86 : Program.cellsOf Tryd.prog 86 = 2 := by kernel_rfl
theorem open86 (h : TR enc Tryd.prog w 86 cs) : ∃ x : GArr2Int, cs = x.enc ∧ ok86 x := by
  obtain ⟨hl, hf⟩ := h.arr Tryd.underlying86
  obtain ⟨x0, e0, k0⟩ := TR.int64 Tryd.underlying3 (hf 0 (by decide))
  obtain ⟨x1, e1, k1⟩ := TR.int64 Tryd.underlying3 (hf 1 (by decide))
  simp only [cells3, Nat.zero_mul, Nat.one_mul, Nat.reduceMul] at e0 e1
  have e := join_cons rfl e0 (join_cons rfl e1 (join_nil hl cells86))
  exact ⟨⟨x0, x1⟩, e, k0, k1⟩
end
end Go.Proofs.YtijnbpnficcpmaaDoor
