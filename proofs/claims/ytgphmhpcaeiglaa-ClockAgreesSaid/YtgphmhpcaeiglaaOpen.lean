/- Flat types opened: written by rows.py (a program of this claim). -/
import Derived.Test.YtgphmhpcaeiglaaFacts
import Derived.Test.YtgphmhpcaeiglaaGxRow
namespace Go.Proofs.Ytgphmhpcaeiglaa
open Go Go.Gx Go.RowKit
set_option linter.unusedVariables false
set_option linter.unusedSimpArgs false
section
variable {H : Type} {enc : TypeId × Value → H} {w : World} {cs : List Value}
theorem cells3 : Program.cellsOf Try.prog 3 = 1 := by kernel_rfl
def ok60 (x : GArr3Int) : Prop := inI x.a0 ∧ inI x.a1 ∧ inI x.a2
theorem cells60 : Program.cellsOf Try.prog 60 = 3 := by kernel_rfl
theorem open60 (h : TR enc Try.prog w 60 cs) : ∃ x : GArr3Int, cs = x.enc ∧ ok60 x := by
  obtain ⟨hl, hf⟩ := h.arr Try.underlying60
  obtain ⟨x0, e0, k0⟩ := TR.int64 Try.underlying3 (hf 0 (by decide))
  obtain ⟨x1, e1, k1⟩ := TR.int64 Try.underlying3 (hf 1 (by decide))
  obtain ⟨x2, e2, k2⟩ := TR.int64 Try.underlying3 (hf 2 (by decide))
  simp only [cells3, Nat.zero_mul, Nat.one_mul, Nat.reduceMul] at e0 e1 e2
  have e := join_cons rfl e0 (join_cons rfl e1 (join_cons rfl e2 (join_nil hl cells60)))
  exact ⟨⟨x0, x1, x2⟩, e, k0, k1, k2⟩
theorem cells46 : Program.cellsOf Try.prog 46 = 2 := by kernel_rfl
def ok31 (x : GSpell) : Prop := inI x.From ∧ inI x.To
theorem cells31 : Program.cellsOf Try.prog 31 = 2 := by kernel_rfl
theorem open31 (h : TR enc Try.prog w 31 cs) : ∃ x : GSpell, cs = x.enc ∧ ok31 x := by
  obtain ⟨hl, hf⟩ := h.struct Try.underlying31
  obtain ⟨x0, e0, k0⟩ := TR.int64 Try.underlying3 (hf 0 _ rfl)
  obtain ⟨x1, e1, k1⟩ := TR.int64 Try.underlying3 (hf 1 _ rfl)
  have e := join_cons cells3 e0 (join_cons cells3 e1 (join_nil hl cells31))
  exact ⟨⟨x0, x1⟩, e, k0, k1⟩
theorem cells32 : Program.cellsOf Try.prog 32 = 2 := by kernel_rfl
theorem cells22 : Program.cellsOf Try.prog 22 = 1 := by kernel_rfl
def ok47 (x : GReading) : Prop := inI x.Local ∧ inI x.Low ∧ inI x.High
theorem cells47 : Program.cellsOf Try.prog 47 = 3 := by kernel_rfl
theorem open47 (h : TR enc Try.prog w 47 cs) : ∃ x : GReading, cs = x.enc ∧ ok47 x := by
  obtain ⟨hl, hf⟩ := h.struct Try.underlying47
  obtain ⟨x0, e0, k0⟩ := TR.int64 Try.underlying3 (hf 0 _ rfl)
  obtain ⟨x1, e1, k1⟩ := TR.int64 Try.underlying3 (hf 1 _ rfl)
  obtain ⟨x2, e2, k2⟩ := TR.int64 Try.underlying3 (hf 2 _ rfl)
  have e := join_cons cells3 e0 (join_cons cells3 e1 (join_cons cells3 e2 (join_nil hl cells47)))
  exact ⟨⟨x0, x1, x2⟩, e, k0, k1, k2⟩
theorem cells48 : Program.cellsOf Try.prog 48 = 3 := by kernel_rfl
theorem cells24 : Program.cellsOf Try.prog 24 = 2 := by kernel_rfl
end
end Go.Proofs.Ytgphmhpcaeiglaa
