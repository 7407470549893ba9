/- The law DebtPromised holds at every input, and its arguments read behind the call as before. No condition. -/
import Derived.Test.YtgdmaadikcnagaaDoorRows
import Derived.Test.YtgdmaadikcnagaaDoorCards
import Derived.Test.YtgdmaadikcnagaaDoorTie
import Derived.Test.YtgdmaadikcnagaaDoorMLaid
import Derived.SevenTiedAt
import Derived.Test.YtgdmaadikcnagaaDoorMB2
import Derived.Test.YtgdmaadikcnagaaDoorMOpen
namespace Go.Proofs.YtgdmaadikcnagaaDoor.debtPromised
open Go Go.Gx Go.RowKit Go.ChangeShapes Go.WideShapes Go.ChangeAt Go.Proofs.YtgdmaadikcnagaaDoor
set_option linter.unusedVariables false
set_option linter.unusedSimpArgs false
theorem own_ : ownKnob Tryd.prog.godebug = none := by kernel_rfl
theorem laid_ : laidOutB Tryd.prog = true := by kernel_rfl
set_option maxRecDepth 100000 in
theorem lifted (os : Os) (started : os.Started) (H : Type) (enc : TypeId × Value → H) :
    ReturnsInHanded {} Tryd.checked os 9 .any (fun w args => (Rows.debtPromisedSpec.pre enc Tryd.prog Tryd.f9 [] false w args ∧ laidMetH Tryd.prog laidL w) ∧ sizedMet enc Tryd.prog Tryd.f9 (OpenSpec.ofChange Rows.debtPromisedSpec) false w args) (Rows.debtPromisedSpec.post enc Tryd.prog Tryd.f9 false true false false) := by
  refine returnsInHanded_of_change_and (C := Tryd.checked) (X := fun w _ => laidMetH Tryd.prog laidL w) (fun _ _ _ hh h => h.of_heap hh) own_ started (by kernel_rfl) Tryd.func9
    (ChangeSpec.witness_shaped (enc := enc) (C := Tryd.checked) (os := os) (X := fun w _ => laidMetH Tryd.prog laidL w) false (World.doorLaid Tryd.prog 400 os) #[.slice none 0 0, .slice none 0 0, .int .i64 0, .int .i64 0] 8 rfl (World.shaped_of_RefB (by kernel_rfl) (by kernel_rfl)) (by kernel_rfl) (by kernel_rfl) (by kernel_rfl) (door_met os _)) ?_
  intro W base args ds gs before hval0 hW _ _ hL _
  have hG := of_laid hL
  have hval : ∀ (j : Nat) t v, Tryd.f9.params[j]? = some t → args[j]? = some v → Value.okWide Tryd.prog W .any base t v := hval0
  have hW' := hW
  obtain ⟨p, q, hA0, hV, rfl, hfz, hnd⟩ := hW
  have hA : DataW.TrodAll enc Tryd.prog W 0 (fun _ => true) true Tryd.f9.params.toList args.toList ds p := hA0
  rw [Tryd.params9] at hA hval
  obtain ⟨v0, vs0, d0, ds0, p0, q0, hargs, rfl, rfl, h0, r0⟩ := trodAll_cons hA
  obtain ⟨v1, vs1, d1, ds1, p1, q1, rfl, rfl, rfl, h1, r1⟩ := trodAll_cons r0
  obtain ⟨v2, vs2, d2, ds2, p2, q2, rfl, rfl, rfl, h2, r2⟩ := trodAll_cons r1
  obtain ⟨v3, vs3, d3, ds3, p3, q3, rfl, rfl, rfl, h3, r3⟩ := trodAll_cons r2
  obtain ⟨rfl, rfl, rfl⟩ := trodAll_nil r3
  obtain rfl : args = #[v0, v1, v2, v3] := by cases args; simp_all
  obtain ⟨rfl, rfl⟩ := trodVars_none hV
  have k0 := h0
  have lt0 := p_lt k0
  obtain ⟨l0, R0, i0, n0⟩ := p_slice (D := Flat.ty fGArr8Int) (ok := ok107) Tryd.underlying61 (hval 0 61 v0 rfl rfl) h0 cells107 (by decide) (fun cs h => open107 h)
  have k1 := h1
  have lt1 := p_lt k1
  obtain ⟨l1, R1, i1, n1⟩ := p_slice (D := Flat.ty fGArr2Int) (ok := ok100) Tryd.underlying41 (hval 1 41 v1 rfl rfl) h1 cells100 (by decide) (fun cs h => open100 h)
  have k2 := h2
  have lt2 := p_lt k2
  obtain ⟨a2, rfl, i2⟩ := p_int64 Tryd.underlying3 (hval 2 3 v2 rfl rfl) h2
  have k3 := h3
  have lt3 := p_lt k3
  obtain ⟨a3, rfl, i3⟩ := p_int64 Tryd.underlying3 (hval 3 3 v3 rfl rfl) h3
  have hcalls := lawPromised_spec hG R0 i0 n0 R1 i1 n1 i2 i3
  refine Calls.mono hcalls.out fun e W' ⟨he, bel⟩ => ?_
  subst he
  exact ⟨_, rfl, _, _, _, [], _, [], hW', trodAll_mk1 (shut_bool Tryd.underlying4 _), (trodAll_cons_mk (Below.trod laid_ (by kernel_rfl) (of_decide_eq_true (by kernel_rfl)) k0 bel lt0) (trodAll_cons_mk (Below.trod laid_ (by kernel_rfl) (of_decide_eq_true (by kernel_rfl)) k1 bel lt1) (trodAll_cons_mk (Below.trod laid_ (by kernel_rfl) (of_decide_eq_true (by kernel_rfl)) k2 bel lt2) (trodAll_cons_mk (Below.trod laid_ (by kernel_rfl) (of_decide_eq_true (by kernel_rfl)) k3 bel lt3) trodAll_mk0)))), rfl, bel.frame _, fun h => by cases h⟩
theorem over : Rows.debtPromisedRow.holds Tryd.pinned (OpenSpec.ofChange Rows.debtPromisedSpec) :=
  OpenClaim.holds_of_wide 9 Tryd.f9 rfl rfl rfl rfl rfl rfl rfl ⟨rfl, rfl, rfl, rfl, rfl⟩ rfl rfl rfl rfl rfl (by kernel_rfl) Tryd.func9 (by kernel_rfl)
    (of_decide_eq_true (by kernel_rfl)) (by unfold Func.isWrapper; first | (rw [if_pos (by decide +kernel)]; kernel_rfl) | (rw [if_neg (by decide +kernel)]; exact ⟨rfl, rfl⟩))
    (fun os started H enc _ => lifted os started H enc)
end Go.Proofs.YtgdmaadikcnagaaDoor.debtPromised
namespace Go.Proofs.YtgdmaadikcnagaaDoor
theorem debtPromised_holds : Rows.DebtPromisedSaid := debtPromised.over
theorem debtPromised_card : Rows.DebtPromisedCardSaid :=
  Claim7.holds_tied_plain_at .later [] [.funcs, .funcs] true (true, "3cb17d303db6ff427c1a66e0bbe6edb481f835d9a90153d5abba44aac8a1bf71") false
    debtPromised_holds (fun _ h => by cases h) (by kernel_rfl) (fun _ h => by cases h) debtPromised_row_tie rfl ⟨rfl, rfl⟩ (by kernel_rfl) rfl
    (fun f fn hf hfn => by
      obtain rfl : f = 9 := Option.some.inj ((show Tryd.prog.funcNamed "aircheck/airchecklaw14.DebtPromised" = some 9 by kernel_rfl).symm.trans hf) |>.symm
      obtain rfl : fn = Tryd.f9 := (Option.some.inj (Tryd.func9.symm.trans hfn)).symm
      exact ⟨by kernel_rfl, fun j t ht => by
        rw [Tryd.params9] at ht
        have hm : t ∈ [61, 41, 3, 3] := by simpa using Array.mem_of_getElem? ht
        have hall : ([61, 41, 3, 3].all fun u => !Tryd.prog.wantsStandIn u) = true := by kernel_rfl
        exact (show Tryd.prog.wantsStandIn t = false by simpa using List.all_eq_true.1 hall t hm)⟩)
    (by kernel_rfl)
#print axioms debtPromised_card
end Go.Proofs.YtgdmaadikcnagaaDoor
