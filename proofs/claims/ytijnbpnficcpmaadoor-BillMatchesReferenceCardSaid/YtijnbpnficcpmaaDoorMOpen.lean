/- Merged texts: Open. -/
import Derived.Test.YtijnbpnficcpmaaDoorMF
import Derived.Test.YtijnbpnficcpmaaDoorMG1
set_option linter.unusedVariables false
set_option linter.unusedSimpArgs false
namespace Go.Proofs.YtijnbpnficcpmaaDoor
open Go Go.Gx Go.RowKit
section
variable {H : Type} {enc : TypeId × Value → H} {w : World} {cs : List Value}
theorem cells22 : Program.cellsOf Tryd.prog 22 = 1 := by kernel_rfl
def ok65 (x : GWeek) : Prop := inI x.a0 ∧ inI x.a1 ∧ inI x.a2 ∧ inI x.a3 ∧ inI x.a4 ∧ inI x.a5 ∧ inI x.a6
theorem Z3f : Program.cellsOf Tryd.prog 3 = 1 := by kernel_rfl
theorem cells65 : Program.cellsOf Tryd.prog 65 = 7 := by kernel_rfl
theorem open65 (h : TR enc Tryd.prog w 65 cs) : ∃ x : GWeek, cs = x.enc ∧ ok65 x := by
 obtain ⟨hl, hf⟩ := h.arr Tryd.underlying65
 obtain ⟨x0, e0, k0⟩ := TR.int64 Tryd.underlying3 (hf 0 (by decide))
 obtain ⟨x1, e1, k1⟩ := TR.int64 Tryd.underlying3 (hf 1 (by decide))
 obtain ⟨x2, e2, k2⟩ := TR.int64 Tryd.underlying3 (hf 2 (by decide))
 obtain ⟨x3, e3, k3⟩ := TR.int64 Tryd.underlying3 (hf 3 (by decide))
 obtain ⟨x4, e4, k4⟩ := TR.int64 Tryd.underlying3 (hf 4 (by decide))
 obtain ⟨x5, e5, k5⟩ := TR.int64 Tryd.underlying3 (hf 5 (by decide))
 obtain ⟨x6, e6, k6⟩ := TR.int64 Tryd.underlying3 (hf 6 (by decide))
 simp only [Z3f, Nat.zero_mul, Nat.one_mul, Nat.reduceMul] at e0 e1 e2 e3 e4 e5 e6
 have e := Z1k rfl e0 (Z1k rfl e1 (Z1k rfl e2 (Z1k rfl e3 (Z1k rfl e4 (Z1k rfl e5 (Z1k rfl e6 (Z4k hl cells65)))))))
 exact ⟨⟨x0, x1, x2, x3, x4, x5, x6⟩, e, k0, k1, k2, k3, k4, k5, k6⟩
def ok67 (x : GSpell) : Prop := inI x.From ∧ inI x.To
theorem cells67 : Program.cellsOf Tryd.prog 67 = 2 := by kernel_rfl
theorem open67 (h : TR enc Tryd.prog w 67 cs) : ∃ x : GSpell, cs = x.enc ∧ ok67 x := by
 obtain ⟨hl, hf⟩ := h.struct Tryd.underlying67
 obtain ⟨x0, e0, k0⟩ := TR.int64 Tryd.underlying3 (hf 0 _ rfl)
 obtain ⟨x1, e1, k1⟩ := TR.int64 Tryd.underlying3 (hf 1 _ rfl)
 have e := Z1k Z3f e0 (Z1k Z3f e1 (Z4k hl cells67))
 exact ⟨⟨x0, x1⟩, e, k0, k1⟩
def ok69 (x : GContract) : Prop := inI x.ID ∧ inI x.Sponsor ∧ inI x.Category ∧ inI x.Item ∧ inI x.Count ∧ inI x.PerDay ∧ inI x.Gap ∧ inI x.Price ∧ ok65 x.Week ∧ ok67 x.Window
theorem cells66 : Program.cellsOf Tryd.prog 66 = 7 := by kernel_rfl
theorem cells68 : Program.cellsOf Tryd.prog 68 = 2 := by kernel_rfl
theorem cells69 : Program.cellsOf Tryd.prog 69 = 17 := by kernel_rfl
theorem open69 (h : TR enc Tryd.prog w 69 cs) : ∃ x : GContract, cs = x.enc ∧ ok69 x := by
 obtain ⟨hl, hf⟩ := h.struct Tryd.underlying69
 obtain ⟨x0, e0, k0⟩ := TR.int64 Tryd.underlying3 (hf 0 _ rfl)
 obtain ⟨x1, e1, k1⟩ := TR.int64 Tryd.underlying3 (hf 1 _ rfl)
 obtain ⟨x2, e2, k2⟩ := TR.int64 Tryd.underlying3 (hf 2 _ rfl)
 obtain ⟨x3, e3, k3⟩ := TR.int64 Tryd.underlying3 (hf 3 _ rfl)
 obtain ⟨x4, e4, k4⟩ := TR.int64 Tryd.underlying3 (hf 4 _ rfl)
 obtain ⟨x5, e5, k5⟩ := TR.int64 Tryd.underlying3 (hf 5 _ rfl)
 obtain ⟨x6, e6, k6⟩ := TR.int64 Tryd.underlying3 (hf 6 _ rfl)
 obtain ⟨x7, e7, k7⟩ := TR.int64 Tryd.underlying3 (hf 7 _ rfl)
 obtain ⟨x8, e8, k8⟩ := open65 (TR.same (t' := 65) (by kernel_rfl) (by kernel_rfl) (hf 8 _ rfl))
 obtain ⟨x9, e9, k9⟩ := open67 (TR.same (t' := 67) (by kernel_rfl) (by kernel_rfl) (hf 9 _ rfl))
 have e := Z1k Z3f e0 (Z1k Z3f e1 (Z1k Z3f e2 (Z1k Z3f e3 (Z1k Z3f e4 (Z1k Z3f e5 (Z1k Z3f e6 (Z1k Z3f e7 (Z1k cells66 e8 (Z1k cells68 e9 (Z4k hl cells69))))))))))
 exact ⟨⟨x0, x1, x2, x3, x4, x5, x6, x7, x8, x9⟩, e, k0, k1, k2, k3, k4, k5, k6, k7, k8, k9⟩
theorem cells70 : Program.cellsOf Tryd.prog 70 = 17 := by kernel_rfl
theorem cells23 : Program.cellsOf Tryd.prog 23 = 1 := by kernel_rfl
def ok62 (x : GSpot) : Prop := inI x.Contract ∧ inI x.At
theorem cells62 : Program.cellsOf Tryd.prog 62 = 2 := by kernel_rfl
theorem open62 (h : TR enc Tryd.prog w 62 cs) : ∃ x : GSpot, cs = x.enc ∧ ok62 x := by
 obtain ⟨hl, hf⟩ := h.struct Tryd.underlying62
 obtain ⟨x0, e0, k0⟩ := TR.int64 Tryd.underlying3 (hf 0 _ rfl)
 obtain ⟨x1, e1, k1⟩ := TR.int64 Tryd.underlying3 (hf 1 _ rfl)
 have e := Z1k Z3f e0 (Z1k Z3f e1 (Z4k hl cells62))
 exact ⟨⟨x0, x1⟩, e, k0, k1⟩
theorem cells63 : Program.cellsOf Tryd.prog 63 = 2 := by kernel_rfl
theorem cells24 : Program.cellsOf Tryd.prog 24 = 1 := by kernel_rfl
def ok59 (x : GVerdict) : Prop := inI x.Kind ∧ inI x.Item
theorem cells59 : Program.cellsOf Tryd.prog 59 = 2 := by kernel_rfl
theorem open59 (h : TR enc Tryd.prog w 59 cs) : ∃ x : GVerdict, cs = x.enc ∧ ok59 x := by
 obtain ⟨hl, hf⟩ := h.struct Tryd.underlying59
 obtain ⟨x0, e0, k0⟩ := TR.int64 Tryd.underlying3 (hf 0 _ rfl)
 obtain ⟨x1, e1, k1⟩ := TR.int64 Tryd.underlying3 (hf 1 _ rfl)
 have e := Z1k Z3f e0 (Z1k Z3f e1 (Z4k hl cells59))
 exact ⟨⟨x0, x1⟩, e, k0, k1⟩
theorem cells60 : Program.cellsOf Tryd.prog 60 = 2 := by kernel_rfl
theorem Zlg : Program.cellsOf Tryd.prog 27 = 3 := by kernel_rfl
theorem cells25 : Program.cellsOf Tryd.prog 25 = 1 := by kernel_rfl
def ok83 (x : GPosting) : Prop := inI x.Kind ∧ inI x.Day ∧ inI x.Debtor ∧ inI x.Creditor ∧ inI x.Amount ∧ inI x.Subject ∧ inI x.Of
theorem cells83 : Program.cellsOf Tryd.prog 83 = 7 := by kernel_rfl
theorem open83 (h : TR enc Tryd.prog w 83 cs) : ∃ x : GPosting, cs = x.enc ∧ ok83 x := by
 obtain ⟨hl, hf⟩ := h.struct Tryd.underlying83
 obtain ⟨x0, e0, k0⟩ := TR.int64 Tryd.underlying3 (hf 0 _ rfl)
 obtain ⟨x1, e1, k1⟩ := TR.int64 Tryd.underlying3 (hf 1 _ rfl)
 obtain ⟨x2, e2, k2⟩ := TR.int64 Tryd.underlying3 (hf 2 _ rfl)
 obtain ⟨x3, e3, k3⟩ := TR.int64 Tryd.underlying3 (hf 3 _ rfl)
 obtain ⟨x4, e4, k4⟩ := TR.int64 Tryd.underlying3 (hf 4 _ rfl)
 obtain ⟨x5, e5, k5⟩ := TR.int64 Tryd.underlying3 (hf 5 _ rfl)
 obtain ⟨x6, e6, k6⟩ := TR.int64 Tryd.underlying3 (hf 6 _ rfl)
 have e := Z1k Z3f e0 (Z1k Z3f e1 (Z1k Z3f e2 (Z1k Z3f e3 (Z1k Z3f e4 (Z1k Z3f e5 (Z1k Z3f e6 (Z4k hl cells83)))))))
 exact ⟨⟨x0, x1, x2, x3, x4, x5, x6⟩, e, k0, k1, k2, k3, k4, k5, k6⟩
theorem cells84 : Program.cellsOf Tryd.prog 84 = 7 := by kernel_rfl
theorem Zlh : Program.cellsOf Tryd.prog 28 = 1 := by kernel_rfl
theorem cells30 : Program.cellsOf Tryd.prog 30 = 8 := by kernel_rfl
def ok85 (x : GArr8Int) : Prop := inI x.a0 ∧ inI x.a1 ∧ inI x.a2 ∧ inI x.a3 ∧ inI x.a4 ∧ inI x.a5 ∧ inI x.a6 ∧ inI x.a7
theorem Zli : Program.cellsOf Tryd.prog 85 = 8 := by kernel_rfl
theorem open85 (h : TR enc Tryd.prog w 85 cs) : ∃ x : GArr8Int, cs = x.enc ∧ ok85 x := by
 obtain ⟨hl, hf⟩ := h.arr Tryd.underlying85
 obtain ⟨x0, e0, k0⟩ := TR.int64 Tryd.underlying3 (hf 0 (by decide))
 obtain ⟨x1, e1, k1⟩ := TR.int64 Tryd.underlying3 (hf 1 (by decide))
 obtain ⟨x2, e2, k2⟩ := TR.int64 Tryd.underlying3 (hf 2 (by decide))
 obtain ⟨x3, e3, k3⟩ := TR.int64 Tryd.underlying3 (hf 3 (by decide))
 obtain ⟨x4, e4, k4⟩ := TR.int64 Tryd.underlying3 (hf 4 (by decide))
 obtain ⟨x5, e5, k5⟩ := TR.int64 Tryd.underlying3 (hf 5 (by decide))
 obtain ⟨x6, e6, k6⟩ := TR.int64 Tryd.underlying3 (hf 6 (by decide))
 obtain ⟨x7, e7, k7⟩ := TR.int64 Tryd.underlying3 (hf 7 (by decide))
 simp only [Z3f, Nat.zero_mul, Nat.one_mul, Nat.reduceMul] at e0 e1 e2 e3 e4 e5 e6 e7
 have e := Z1k rfl e0 (Z1k rfl e1 (Z1k rfl e2 (Z1k rfl e3 (Z1k rfl e4 (Z1k rfl e5 (Z1k rfl e6 (Z1k rfl e7 (Z4k hl Zli))))))))
 exact ⟨⟨x0, x1, x2, x3, x4, x5, x6, x7⟩, e, k0, k1, k2, k3, k4, k5, k6, k7⟩
def ok86 (x : GArr2Int) : Prop := inI x.a0 ∧ inI x.a1
theorem Zlj : Program.cellsOf Tryd.prog 86 = 2 := by kernel_rfl
theorem open86 (h : TR enc Tryd.prog w 86 cs) : ∃ x : GArr2Int, cs = x.enc ∧ ok86 x := by
 obtain ⟨hl, hf⟩ := h.arr Tryd.underlying86
 obtain ⟨x0, e0, k0⟩ := TR.int64 Tryd.underlying3 (hf 0 (by decide))
 obtain ⟨x1, e1, k1⟩ := TR.int64 Tryd.underlying3 (hf 1 (by decide))
 simp only [Z3f, Nat.zero_mul, Nat.one_mul, Nat.reduceMul] at e0 e1
 have e := Z1k rfl e0 (Z1k rfl e1 (Z4k hl Zlj))
 exact ⟨⟨x0, x1⟩, e, k0, k1⟩
def ok87 (x : GArr5Int) : Prop := inI x.a0 ∧ inI x.a1 ∧ inI x.a2 ∧ inI x.a3 ∧ inI x.a4
theorem Zlk : Program.cellsOf Tryd.prog 87 = 5 := by kernel_rfl
theorem open87 (h : TR enc Tryd.prog w 87 cs) : ∃ x : GArr5Int, cs = x.enc ∧ ok87 x := by
 obtain ⟨hl, hf⟩ := h.arr Tryd.underlying87
 obtain ⟨x0, e0, k0⟩ := TR.int64 Tryd.underlying3 (hf 0 (by decide))
 obtain ⟨x1, e1, k1⟩ := TR.int64 Tryd.underlying3 (hf 1 (by decide))
 obtain ⟨x2, e2, k2⟩ := TR.int64 Tryd.underlying3 (hf 2 (by decide))
 obtain ⟨x3, e3, k3⟩ := TR.int64 Tryd.underlying3 (hf 3 (by decide))
 obtain ⟨x4, e4, k4⟩ := TR.int64 Tryd.underlying3 (hf 4 (by decide))
 simp only [Z3f, Nat.zero_mul, Nat.one_mul, Nat.reduceMul] at e0 e1 e2 e3 e4
 have e := Z1k rfl e0 (Z1k rfl e1 (Z1k rfl e2 (Z1k rfl e3 (Z1k rfl e4 (Z4k hl Zlk)))))
 exact ⟨⟨x0, x1, x2, x3, x4⟩, e, k0, k1, k2, k3, k4⟩
end
end Go.Proofs.YtijnbpnficcpmaaDoor
