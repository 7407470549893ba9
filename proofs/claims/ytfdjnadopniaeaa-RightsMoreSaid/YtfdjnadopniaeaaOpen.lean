/- Flat types opened: written by rows.py (a program of this claim). -/
import Derived.Test.YtfdjnadopniaeaaFacts
import Derived.Test.YtfdjnadopniaeaaGxRow
namespace Go.Proofs.Ytfdjnadopniaeaa
open Go Go.Gx Go.RowKit
set_option linter.unusedVariables false
set_option linter.unusedSimpArgs false
section
variable {H : Type} {enc : TypeId × Value → H} {w : World} {cs : List Value}
def ok57 (x : GArr5Int) : Prop := inI x.a0 ∧ inI x.a1 ∧ inI x.a2 ∧ inI x.a3 ∧ inI x.a4
theorem cells3 : Program.cellsOf Try.prog 3 = 1 := by kernel_rfl
theorem cells57 : Program.cellsOf Try.prog 57 = 5 := by kernel_rfl
theorem open57 (h : TR enc Try.prog w 57 cs) : ∃ x : GArr5Int, cs = x.enc ∧ ok57 x := by
  obtain ⟨hl, hf⟩ := h.arr Try.underlying57
  obtain ⟨x0, e0, k0⟩ := TR.int64 Try.underlying3 (hf 0 (by decide))
  obtain ⟨x1, e1, k1⟩ := TR.int64 Try.underlying3 (hf 1 (by decide))
  obtain ⟨x2, e2, k2⟩ := TR.int64 Try.underlying3 (hf 2 (by decide))
  obtain ⟨x3, e3, k3⟩ := TR.int64 Try.underlying3 (hf 3 (by decide))
  obtain ⟨x4, e4, k4⟩ := TR.int64 Try.underlying3 (hf 4 (by decide))
  simp only [cells3, Nat.zero_mul, Nat.one_mul, Nat.reduceMul] at e0 e1 e2 e3 e4
  have e := join_cons rfl e0 (join_cons rfl e1 (join_cons rfl e2 (join_cons rfl e3 (join_cons rfl e4 (join_nil hl cells57)))))
  exact ⟨⟨x0, x1, x2, x3, x4⟩, e, k0, k1, k2, k3, k4⟩
def ok59 (x : GArr4Int) : Prop := inI x.a0 ∧ inI x.a1 ∧ inI x.a2 ∧ inI x.a3
theorem cells59 : Program.cellsOf Try.prog 59 = 4 := by kernel_rfl
theorem open59 (h : TR enc Try.prog w 59 cs) : ∃ x : GArr4Int, cs = x.enc ∧ ok59 x := by
  obtain ⟨hl, hf⟩ := h.arr Try.underlying59
  obtain ⟨x0, e0, k0⟩ := TR.int64 Try.underlying3 (hf 0 (by decide))
  obtain ⟨x1, e1, k1⟩ := TR.int64 Try.underlying3 (hf 1 (by decide))
  obtain ⟨x2, e2, k2⟩ := TR.int64 Try.underlying3 (hf 2 (by decide))
  obtain ⟨x3, e3, k3⟩ := TR.int64 Try.underlying3 (hf 3 (by decide))
  simp only [cells3, Nat.zero_mul, Nat.one_mul, Nat.reduceMul] at e0 e1 e2 e3
  have e := join_cons rfl e0 (join_cons rfl e1 (join_cons rfl e2 (join_cons rfl e3 (join_nil hl cells59))))
  exact ⟨⟨x0, x1, x2, x3⟩, e, k0, k1, k2, k3⟩
end
end Go.Proofs.Ytfdjnadopniaeaa
