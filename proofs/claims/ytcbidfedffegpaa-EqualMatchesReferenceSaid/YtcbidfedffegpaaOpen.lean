/- Flat types opened: written by rows.py (a program of this claim). -/
import Derived.Test.YtcbidfedffegpaaFacts
import Derived.Test.YtcbidfedffegpaaGxRow
namespace Go.Proofs.Ytcbidfedffegpaa
open Go Go.Gx Go.RowKit
set_option linter.unusedVariables false
set_option linter.unusedSimpArgs false
section
variable {H : Type} {enc : TypeId × Value → H} {w : World} {cs : List Value}
def ok48 (x : GAppearance) : Prop := inI x.Candidate ∧ inI x.At ∧ inI x.Seconds ∧ inI x.Weight
theorem cells3 : Program.cellsOf Try.prog 3 = 1 := by kernel_rfl
theorem cells48 : Program.cellsOf Try.prog 48 = 4 := by kernel_rfl
theorem open48 (h : TR enc Try.prog w 48 cs) : ∃ x : GAppearance, cs = x.enc ∧ ok48 x := by
  obtain ⟨hl, hf⟩ := h.struct Try.underlying48
  obtain ⟨x0, e0, k0⟩ := TR.int64 Try.underlying3 (hf 0 _ rfl)
  obtain ⟨x1, e1, k1⟩ := TR.int64 Try.underlying3 (hf 1 _ rfl)
  obtain ⟨x2, e2, k2⟩ := TR.int64 Try.underlying3 (hf 2 _ rfl)
  obtain ⟨x3, e3, k3⟩ := TR.int64 Try.underlying3 (hf 3 _ rfl)
  have e := join_cons cells3 e0 (join_cons cells3 e1 (join_cons cells3 e2 (join_cons cells3 e3 (join_nil hl cells48))))
  exact ⟨⟨x0, x1, x2, x3⟩, e, k0, k1, k2, k3⟩
theorem cells49 : Program.cellsOf Try.prog 49 = 4 := by kernel_rfl
def ok53 (x : GArr4Int) : Prop := inI x.a0 ∧ inI x.a1 ∧ inI x.a2 ∧ inI x.a3
theorem cells53 : Program.cellsOf Try.prog 53 = 4 := by kernel_rfl
theorem open53 (h : TR enc Try.prog w 53 cs) : ∃ x : GArr4Int, cs = x.enc ∧ ok53 x := by
  obtain ⟨hl, hf⟩ := h.arr Try.underlying53
  obtain ⟨x0, e0, k0⟩ := TR.int64 Try.underlying3 (hf 0 (by decide))
  obtain ⟨x1, e1, k1⟩ := TR.int64 Try.underlying3 (hf 1 (by decide))
  obtain ⟨x2, e2, k2⟩ := TR.int64 Try.underlying3 (hf 2 (by decide))
  obtain ⟨x3, e3, k3⟩ := TR.int64 Try.underlying3 (hf 3 (by decide))
  simp only [cells3, Nat.zero_mul, Nat.one_mul, Nat.reduceMul] at e0 e1 e2 e3
  have e := join_cons rfl e0 (join_cons rfl e1 (join_cons rfl e2 (join_cons rfl e3 (join_nil hl cells53))))
  exact ⟨⟨x0, x1, x2, x3⟩, e, k0, k1, k2, k3⟩
end
end Go.Proofs.Ytcbidfedffegpaa
