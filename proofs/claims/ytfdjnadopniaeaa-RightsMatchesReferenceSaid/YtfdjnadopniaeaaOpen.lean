/- Flat types opened: written by rows.py (a program of this claim). -/
import Derived.Test.YtfdjnadopniaeaaFacts
import Derived.Test.YtfdjnadopniaeaaGxRow
namespace Go.Proofs.Ytfdjnadopniaeaa
open Go Go.Gx Go.RowKit
set_option linter.unusedVariables false
set_option linter.unusedSimpArgs false
section
variable {H : Type} {enc : TypeId × Value → H} {w : World} {cs : List Value}
def ok49 (x : GSpell) : Prop := inI x.From ∧ inI x.To
theorem cells3 : Program.cellsOf Try.prog 3 = 1 := by kernel_rfl
theorem cells49 : Program.cellsOf Try.prog 49 = 2 := by kernel_rfl
theorem open49 (h : TR enc Try.prog w 49 cs) : ∃ x : GSpell, cs = x.enc ∧ ok49 x := by
  obtain ⟨hl, hf⟩ := h.struct Try.underlying49
  obtain ⟨x0, e0, k0⟩ := TR.int64 Try.underlying3 (hf 0 _ rfl)
  obtain ⟨x1, e1, k1⟩ := TR.int64 Try.underlying3 (hf 1 _ rfl)
  have e := join_cons cells3 e0 (join_cons cells3 e1 (join_nil hl cells49))
  exact ⟨⟨x0, x1⟩, e, k0, k1⟩
def ok51 (x : GGrant) : Prop := inI x.Item ∧ inI x.Acts ∧ inI x.Regions ∧ inI x.Plays ∧ ok49 x.Window
theorem cells50 : Program.cellsOf Try.prog 50 = 2 := by kernel_rfl
theorem cells51 : Program.cellsOf Try.prog 51 = 6 := by kernel_rfl
theorem open51 (h : TR enc Try.prog w 51 cs) : ∃ x : GGrant, cs = x.enc ∧ ok51 x := by
  obtain ⟨hl, hf⟩ := h.struct Try.underlying51
  obtain ⟨x0, e0, k0⟩ := TR.int64 Try.underlying3 (hf 0 _ rfl)
  obtain ⟨x1, e1, k1⟩ := TR.int64 Try.underlying3 (hf 1 _ rfl)
  obtain ⟨x2, e2, k2⟩ := TR.int64 Try.underlying3 (hf 2 _ rfl)
  obtain ⟨x3, e3, k3⟩ := TR.int64 Try.underlying3 (hf 3 _ rfl)
  obtain ⟨x4, e4, k4⟩ := open49 (TR.same (t' := 49) (by kernel_rfl) (by kernel_rfl) (hf 4 _ rfl))
  have e := join_cons cells3 e0 (join_cons cells3 e1 (join_cons cells3 e2 (join_cons cells3 e3 (join_cons cells50 e4 (join_nil hl cells51)))))
  exact ⟨⟨x0, x1, x2, x3, x4⟩, e, k0, k1, k2, k3, k4⟩
theorem cells52 : Program.cellsOf Try.prog 52 = 6 := by kernel_rfl
def ok45 (x : GUse) : Prop := inI x.Item ∧ inI x.Acts ∧ inI x.Region ∧ inI x.At
theorem cells45 : Program.cellsOf Try.prog 45 = 4 := by kernel_rfl
theorem open45 (h : TR enc Try.prog w 45 cs) : ∃ x : GUse, cs = x.enc ∧ ok45 x := by
  obtain ⟨hl, hf⟩ := h.struct Try.underlying45
  obtain ⟨x0, e0, k0⟩ := TR.int64 Try.underlying3 (hf 0 _ rfl)
  obtain ⟨x1, e1, k1⟩ := TR.int64 Try.underlying3 (hf 1 _ rfl)
  obtain ⟨x2, e2, k2⟩ := TR.int64 Try.underlying3 (hf 2 _ rfl)
  obtain ⟨x3, e3, k3⟩ := TR.int64 Try.underlying3 (hf 3 _ rfl)
  have e := join_cons cells3 e0 (join_cons cells3 e1 (join_cons cells3 e2 (join_cons cells3 e3 (join_nil hl cells45))))
  exact ⟨⟨x0, x1, x2, x3⟩, e, k0, k1, k2, k3⟩
theorem cells46 : Program.cellsOf Try.prog 46 = 4 := by kernel_rfl
def ok57 (x : GArr5Int) : Prop := inI x.a0 ∧ inI x.a1 ∧ inI x.a2 ∧ inI x.a3 ∧ inI x.a4
theorem cells57 : Program.cellsOf Try.prog 57 = 5 := by kernel_rfl
theorem open57 (h : TR enc Try.prog w 57 cs) : ∃ x : GArr5Int, cs = x.enc ∧ ok57 x := by
  obtain ⟨hl, hf⟩ := h.arr Try.underlying57
  obtain ⟨x0, e0, k0⟩ := TR.int64 Try.underlying3 (hf 0 (by decide))
  obtain ⟨x1, e1, k1⟩ := TR.int64 Try.underlying3 (hf 1 (by decide))
  obtain ⟨x2, e2, k2⟩ := TR.int64 Try.underlying3 (hf 2 (by decide))
  obtain ⟨x3, e3, k3⟩ := TR.int64 Try.underlying3 (hf 3 (by decide))
  obtain ⟨x4, e4, k4⟩ := TR.int64 Try.underlying3 (hf 4 (by decide))
  simp only [cells3, Nat.zero_mul, Nat.one_mul, Nat.reduceMul] at e0 e1 e2 e3 e4
  have e := join_cons rfl e0 (join_cons rfl e1 (join_cons rfl e2 (join_cons rfl e3 (join_cons rfl e4 (join_nil hl cells57)))))
  exact ⟨⟨x0, x1, x2, x3, x4⟩, e, k0, k1, k2, k3, k4⟩
def ok59 (x : GArr4Int) : Prop := inI x.a0 ∧ inI x.a1 ∧ inI x.a2 ∧ inI x.a3
theorem cells59 : Program.cellsOf Try.prog 59 = 4 := by kernel_rfl
theorem open59 (h : TR enc Try.prog w 59 cs) : ∃ x : GArr4Int, cs = x.enc ∧ ok59 x := by
  obtain ⟨hl, hf⟩ := h.arr Try.underlying59
  obtain ⟨x0, e0, k0⟩ := TR.int64 Try.underlying3 (hf 0 (by decide))
  obtain ⟨x1, e1, k1⟩ := TR.int64 Try.underlying3 (hf 1 (by decide))
  obtain ⟨x2, e2, k2⟩ := TR.int64 Try.underlying3 (hf 2 (by decide))
  obtain ⟨x3, e3, k3⟩ := TR.int64 Try.underlying3 (hf 3 (by decide))
  simp only [cells3, Nat.zero_mul, Nat.one_mul, Nat.reduceMul] at e0 e1 e2 e3
  have e := join_cons rfl e0 (join_cons rfl e1 (join_cons rfl e2 (join_cons rfl e3 (join_nil hl cells59))))
  exact ⟨⟨x0, x1, x2, x3⟩, e, k0, k1, k2, k3⟩
end
end Go.Proofs.Ytfdjnadopniaeaa
