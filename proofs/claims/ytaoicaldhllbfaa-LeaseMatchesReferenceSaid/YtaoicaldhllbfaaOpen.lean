/- Flat types opened: written by rows.py (a program of this claim). -/
import Derived.Test.YtaoicaldhllbfaaFacts
import Derived.Test.YtaoicaldhllbfaaGxRow
namespace Go.Proofs.Ytaoicaldhllbfaa
open Go Go.Gx Go.RowKit
set_option linter.unusedVariables false
set_option linter.unusedSimpArgs false
section
variable {H : Type} {enc : TypeId × Value → H} {w : World} {cs : List Value}
def ok49 (x : GRequest) : Prop := inI x.Hub ∧ inI x.Asked ∧ inI x.Length ∧ inI x.At
theorem cells3 : Program.cellsOf Try.prog 3 = 1 := by kernel_rfl
theorem cells49 : Program.cellsOf Try.prog 49 = 4 := by kernel_rfl
theorem open49 (h : TR enc Try.prog w 49 cs) : ∃ x : GRequest, cs = x.enc ∧ ok49 x := by
  obtain ⟨hl, hf⟩ := h.struct Try.underlying49
  obtain ⟨x0, e0, k0⟩ := TR.int64 Try.underlying3 (hf 0 _ rfl)
  obtain ⟨x1, e1, k1⟩ := TR.int64 Try.underlying3 (hf 1 _ rfl)
  obtain ⟨x2, e2, k2⟩ := TR.int64 Try.underlying3 (hf 2 _ rfl)
  obtain ⟨x3, e3, k3⟩ := TR.int64 Try.underlying3 (hf 3 _ rfl)
  have e := join_cons cells3 e0 (join_cons cells3 e1 (join_cons cells3 e2 (join_cons cells3 e3 (join_nil hl cells49))))
  exact ⟨⟨x0, x1, x2, x3⟩, e, k0, k1, k2, k3⟩
theorem cells50 : Program.cellsOf Try.prog 50 = 4 := by kernel_rfl
theorem cells23 : Program.cellsOf Try.prog 23 = 4 := by kernel_rfl
theorem cells25 : Program.cellsOf Try.prog 25 = 4 := by kernel_rfl
theorem cells24 : Program.cellsOf Try.prog 24 = 1 := by kernel_rfl
theorem cells26 : Program.cellsOf Try.prog 26 = 1 := by kernel_rfl
def ok59 (x : GArr5Int) : Prop := inI x.a0 ∧ inI x.a1 ∧ inI x.a2 ∧ inI x.a3 ∧ inI x.a4
theorem cells59 : Program.cellsOf Try.prog 59 = 5 := by kernel_rfl
theorem open59 (h : TR enc Try.prog w 59 cs) : ∃ x : GArr5Int, cs = x.enc ∧ ok59 x := by
  obtain ⟨hl, hf⟩ := h.arr Try.underlying59
  obtain ⟨x0, e0, k0⟩ := TR.int64 Try.underlying3 (hf 0 (by decide))
  obtain ⟨x1, e1, k1⟩ := TR.int64 Try.underlying3 (hf 1 (by decide))
  obtain ⟨x2, e2, k2⟩ := TR.int64 Try.underlying3 (hf 2 (by decide))
  obtain ⟨x3, e3, k3⟩ := TR.int64 Try.underlying3 (hf 3 (by decide))
  obtain ⟨x4, e4, k4⟩ := TR.int64 Try.underlying3 (hf 4 (by decide))
  simp only [cells3, Nat.zero_mul, Nat.one_mul, Nat.reduceMul] at e0 e1 e2 e3 e4
  have e := join_cons rfl e0 (join_cons rfl e1 (join_cons rfl e2 (join_cons rfl e3 (join_cons rfl e4 (join_nil hl cells59)))))
  exact ⟨⟨x0, x1, x2, x3, x4⟩, e, k0, k1, k2, k3, k4⟩
theorem cells28 : Program.cellsOf Try.prog 28 = 13 := by kernel_rfl
theorem cells30 : Program.cellsOf Try.prog 30 = 6 := by kernel_rfl
def ok29 (x : GLease) : Prop := inI x.Hub ∧ inI x.Epoch ∧ inI x.Asked ∧ inI x.Granted ∧ inI x.Length ∧ inI x.Until
theorem cells29 : Program.cellsOf Try.prog 29 = 6 := by kernel_rfl
theorem open29 (h : TR enc Try.prog w 29 cs) : ∃ x : GLease, cs = x.enc ∧ ok29 x := by
  obtain ⟨hl, hf⟩ := h.struct Try.underlying29
  obtain ⟨x0, e0, k0⟩ := TR.int64 Try.underlying3 (hf 0 _ rfl)
  obtain ⟨x1, e1, k1⟩ := TR.int64 Try.underlying3 (hf 1 _ rfl)
  obtain ⟨x2, e2, k2⟩ := TR.int64 Try.underlying3 (hf 2 _ rfl)
  obtain ⟨x3, e3, k3⟩ := TR.int64 Try.underlying3 (hf 3 _ rfl)
  obtain ⟨x4, e4, k4⟩ := TR.int64 Try.underlying3 (hf 4 _ rfl)
  obtain ⟨x5, e5, k5⟩ := TR.int64 Try.underlying3 (hf 5 _ rfl)
  have e := join_cons cells3 e0 (join_cons cells3 e1 (join_cons cells3 e2 (join_cons cells3 e3 (join_cons cells3 e4 (join_cons cells3 e5 (join_nil hl cells29))))))
  exact ⟨⟨x0, x1, x2, x3, x4, x5⟩, e, k0, k1, k2, k3, k4, k5⟩
end
end Go.Proofs.Ytaoicaldhllbfaa
