/- Merged texts: Laid. -/
import Derived.Test.YtijnbpnficcpmaaDoorRows
import Derived.Test.YtijnbpnficcpmaaDoorMC1
import Derived.ProofKit
import Derived.LaidMore
import Derived.LaidOnce
import Derived.OpenShut
import Derived.Stop.Joined
set_option linter.unusedVariables false
set_option linter.unusedSimpArgs false
namespace Go.Proofs.YtijnbpnficcpmaaDoor
open Go Go.Gx Go.RowKit Go.ChangeShapes Go.WideShapes Go.ChangeAt

abbrev Zjb : List (String × DataW Unit) := [("aircheck/contract.tests", Rows.laid_aircheck_contract_tests)]
theorem door_met (os : Os) (args : Array Value) : laidMetH Tryd.prog Zjb ((World.doorLaid Tryd.prog 400 os).forCall (fun _ _ => 0) ⟨#[], args, []⟩).memory :=
 laidMetH_of_parts3 (fuel := 8) (laidMet_of_run' 8 (by kernel_rfl) (by kernel_rfl)) (by kernel_rfl) (by kernel_rfl)
theorem Zb2 {P : Program} {w : World} {base : Nat} {sp : Nat → Bool} {fuel : Nat} {t : TypeId} {ps rs : Array TypeId} {va : Bool} {H : Type} {enc : TypeId × Value → H} {v : Value} {q : List MemPlace} (ht : P.underlying t = some (.func ps rs va)) (h : DataW.trod enc P w base sp true fuel t [v] = some (.nil, q)) : v = .nilFunc := by
 cases fuel with
 | zero => simp [DataW.trod] at h
 | succ n => cases v <;> simp [DataW.trod, ht] at h ⊢
set_option maxRecDepth 100000 in
theorem of_laid {W : World} (h : laidMetH Tryd.prog Zjb W) : Z8e W := by
 obtain ⟨g, t, cs, fuel, p, hg, ht, hv, hd⟩ := h.funcs (n := "aircheck/contract.tests") (List.mem_cons_self ..)
 obtain rfl := Option.some.inj ((show Tryd.prog.globalNamed "aircheck/contract.tests" = some 0 by kernel_rfl).symm.trans hg)
 obtain rfl := Option.some.inj ((show (Tryd.prog.globals[0]?).map (·.type) = some 163 by kernel_rfl).symm.trans ht)
 obtain ⟨xs, m, rfl, hx, hlen, hn, hel⟩ := DataW.trod_array Tryd.underlying163 hd
 have c89 : Tryd.prog.cellsOf 162 = 1 := by kernel_rfl
 have c90 : Tryd.prog.cellsOf 163 = 8 := by kernel_rfl
 rw [c90] at hlen
 simp only [c89, Nat.mul_one] at hel
 obtain ⟨l⟩ := cs
 match l, hlen with
 | [v0, v1, v2, v3, v4, v5, v6, v7], _ =>
  match xs, hn with
  | [x0, x1, x2, x3, x4, x5, x6, x7], _ =>
   have hy := (Prod.mk.inj hx).1
   simp only [DataW.funcsOut, DataW.funcsOutAll, List.map_cons, List.map_nil, DataW.agg.injEq, List.cons.injEq, and_true] at hy
   obtain ⟨y0, y1, y2, y3, y4, y5, y6, y7⟩ := hy
   have z : ∀ {v : Value} {x : DataW (List UInt8) × List MemPlace} {d : DataW (List UInt8)}, DataW.trod (funcToken Tryd.prog) Tryd.prog W 0 (fun _ => true) true m 162 [v] = some x → d = x.1 → DataW.trod (funcToken Tryd.prog) Tryd.prog W 0 (fun _ => true) true m 162 [v] = some (d, x.2) := fun h e => by rw [e]; exact h
   obtain rfl := Zb2 Tryd.underlying162 (z (hel 0 (by decide)) y0)
   obtain rfl := Zb2 Tryd.underlying162 (z (hel 1 (by decide)) y1)
   obtain rfl := Go.func_of_trod (f0 := 133) Tryd.underlying162 (by kernel_rfl) (z (hel 2 (by decide)) y2)
   obtain rfl := Go.func_of_trod (f0 := 134) Tryd.underlying162 (by kernel_rfl) (z (hel 3 (by decide)) y3)
   obtain rfl := Go.func_of_trod (f0 := 136) Tryd.underlying162 (by kernel_rfl) (z (hel 4 (by decide)) y4)
   obtain rfl := Go.func_of_trod (f0 := 137) Tryd.underlying162 (by kernel_rfl) (z (hel 5 (by decide)) y5)
   obtain rfl := Go.func_of_trod (f0 := 138) Tryd.underlying162 (by kernel_rfl) (z (hel 6 (by decide)) y6)
   obtain rfl := Go.func_of_trod (f0 := 139) Tryd.underlying162 (by kernel_rfl) (z (hel 7 (by decide)) y7)
   have hc := fun j => World.var?_cell hg hv j
   refine ⟨?_, rfl, fun j u hj => ?_⟩
   ·have h0 := hc 0
    show 0 < W.heap.size
    rcases Nat.eq_zero_or_pos W.heap.size with e | e
    ·unfold World.cell? at h0
     rw [Array.getElem?_eq_none (by omega)] at h0
     simp at h0
    ·exact e
   ·rw [Z6e, Nat.zero_add, hc j]
    simpa using hj
end Go.Proofs.YtijnbpnficcpmaaDoor
