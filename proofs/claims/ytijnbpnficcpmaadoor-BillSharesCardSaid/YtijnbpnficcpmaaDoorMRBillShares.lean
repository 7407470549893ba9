/- The law BillShares holds at every input, and its arguments read behind the call as before. No condition. -/
import Derived.Test.YtijnbpnficcpmaaDoorRows
import Derived.Test.YtijnbpnficcpmaaDoorCards
import Derived.Test.YtijnbpnficcpmaaDoorTie
import Derived.Test.YtijnbpnficcpmaaDoorMLaid
import Derived.SevenTiedAt
import Derived.Test.YtijnbpnficcpmaaDoorMB2
import Derived.Test.YtijnbpnficcpmaaDoorMOpen
namespace Go.Proofs.YtijnbpnficcpmaaDoor.billShares
open Go Go.Gx Go.RowKit Go.ChangeShapes Go.WideShapes Go.ChangeAt Go.Proofs.YtijnbpnficcpmaaDoor
set_option linter.unusedVariables false
set_option linter.unusedSimpArgs false
theorem own_ : ownKnob Tryd.prog.godebug = none := by kernel_rfl
theorem laid_ : laidOutB Tryd.prog = true := by kernel_rfl
set_option maxRecDepth 100000 in
theorem lifted (os : Os) (started : os.Started) (H : Type) (enc : TypeId × Value → H) :
    ReturnsInHanded {} Tryd.checked os 5 .any (fun w args => (Rows.billSharesSpec.pre enc Tryd.prog Tryd.f5 [] false w args ∧ laidMetH Tryd.prog laidL w) ∧ sizedMet enc Tryd.prog Tryd.f5 (OpenSpec.ofChange Rows.billSharesSpec) false w args) (Rows.billSharesSpec.post enc Tryd.prog Tryd.f5 false true false false) := by
  refine returnsInHanded_of_change_and (C := Tryd.checked) (X := fun w _ => laidMetH Tryd.prog laidL w) (fun _ _ _ hh h => h.of_heap hh) own_ started (by kernel_rfl) Tryd.func5
    (ChangeSpec.witness_shaped (enc := enc) (C := Tryd.checked) (os := os) (X := fun w _ => laidMetH Tryd.prog laidL w) false (World.doorLaid Tryd.prog 400 os) #[.int .i64 0, .slice none 0 0] 8 rfl (World.shaped_of_RefB (by kernel_rfl) (by kernel_rfl)) (by kernel_rfl) (by kernel_rfl) (by kernel_rfl) (door_met os _)) ?_
  intro W base args ds gs before hval0 hW _ _ hL _
  have hG := of_laid hL
  have hval : ∀ (j : Nat) t v, Tryd.f5.params[j]? = some t → args[j]? = some v → Value.okWide Tryd.prog W .any base t v := hval0
  have hW' := hW
  obtain ⟨p, q, hA0, hV, rfl, hfz, hnd⟩ := hW
  have hA : DataW.TrodAll enc Tryd.prog W 0 (fun _ => true) true Tryd.f5.params.toList args.toList ds p := hA0
  rw [Tryd.params5] at hA hval
  obtain ⟨v0, vs0, d0, ds0, p0, q0, hargs, rfl, rfl, h0, r0⟩ := trodAll_cons hA
  obtain ⟨v1, vs1, d1, ds1, p1, q1, rfl, rfl, rfl, h1, r1⟩ := trodAll_cons r0
  obtain ⟨rfl, rfl, rfl⟩ := trodAll_nil r1
  obtain rfl : args = #[v0, v1] := by cases args; simp_all
  obtain ⟨rfl, rfl⟩ := trodVars_none hV
  have k0 := h0
  have lt0 := p_lt k0
  obtain ⟨a0, rfl, i0⟩ := p_int64 Tryd.underlying3 (hval 0 3 v0 rfl rfl) h0
  have k1 := h1
  have lt1 := p_lt k1
  obtain ⟨l1, R1, i1, n1⟩ := p_slice (D := Flat.ty (fInt .i64)) (ok := inI) Tryd.underlying28 (hval 1 28 v1 rfl rfl) h1 cells3 (by decide) (fun cs h => TR.int64 Tryd.underlying3 h)
  have hcalls := lawShares_spec hG i0 R1 i1 n1
  refine Calls.mono hcalls.out fun e W' ⟨he, bel⟩ => ?_
  subst he
  exact ⟨_, rfl, _, _, _, [], _, [], hW', trodAll_mk1 (shut_bool Tryd.underlying4 _), (trodAll_cons_mk (Below.trod laid_ (by kernel_rfl) (of_decide_eq_true (by kernel_rfl)) k0 bel lt0) (trodAll_cons_mk (Below.trod laid_ (by kernel_rfl) (of_decide_eq_true (by kernel_rfl)) k1 bel lt1) trodAll_mk0)), rfl, bel.frame _, fun h => by cases h⟩
theorem over : Rows.billSharesRow.holds Tryd.pinned (OpenSpec.ofChange Rows.billSharesSpec) :=
  OpenClaim.holds_of_wide 5 Tryd.f5 rfl rfl rfl rfl rfl rfl rfl ⟨rfl, rfl, rfl, rfl, rfl⟩ rfl rfl rfl rfl rfl (by kernel_rfl) Tryd.func5 (by kernel_rfl)
    (of_decide_eq_true (by kernel_rfl)) (by unfold Func.isWrapper; first | (rw [if_pos (by decide +kernel)]; kernel_rfl) | (rw [if_neg (by decide +kernel)]; exact ⟨rfl, rfl⟩))
    (fun os started H enc _ => lifted os started H enc)
end Go.Proofs.YtijnbpnficcpmaaDoor.billShares
namespace Go.Proofs.YtijnbpnficcpmaaDoor
theorem billShares_holds : Rows.BillSharesSaid := billShares.over
theorem billShares_card : Rows.BillSharesCardSaid :=
  Claim7.holds_tied_plain_at .later [] [.funcs] true (true, "82253a3f78194241c659ccca32a0eafd4057f6e6a13a58b539e17252431ab20c") false
    billShares_holds (fun _ h => by cases h) (by kernel_rfl) (fun _ h => by cases h) billShares_row_tie rfl ⟨rfl, rfl⟩ (by kernel_rfl) rfl
    (fun f fn hf hfn => by
      obtain rfl : f = 5 := Option.some.inj ((show Tryd.prog.funcNamed "aircheck/airchecklaw39.BillShares" = some 5 by kernel_rfl).symm.trans hf) |>.symm
      obtain rfl : fn = Tryd.f5 := (Option.some.inj (Tryd.func5.symm.trans hfn)).symm
      exact ⟨by kernel_rfl, fun j t ht => by
        rw [Tryd.params5] at ht
        have hm : t ∈ [3, 28] := by simpa using Array.mem_of_getElem? ht
        have hall : ([3, 28].all fun u => !Tryd.prog.wantsStandIn u) = true := by kernel_rfl
        exact (show Tryd.prog.wantsStandIn t = false by simpa using List.all_eq_true.1 hall t hm)⟩)
    (by kernel_rfl)
#print axioms billShares_card
end Go.Proofs.YtijnbpnficcpmaaDoor
