/- The law ContractMatchesReference holds at every input, and its arguments read behind the call as before. No condition. -/
import Derived.Test.YteplelijhkmbkaaDoorRows
import Derived.Test.YteplelijhkmbkaaDoorCards
import Derived.Test.YteplelijhkmbkaaDoorTie
import Derived.Test.YteplelijhkmbkaaDoorLaid
import Derived.SevenTiedAt
import Derived.Test.YteplelijhkmbkaaDoorLJ
import Derived.Test.YteplelijhkmbkaaDoorOpen
namespace Go.Proofs.YteplelijhkmbkaaDoor.contractMatchesReference
open Go Go.Gx Go.RowKit Go.ChangeShapes Go.WideShapes Go.ChangeAt Go.Proofs.YteplelijhkmbkaaDoor
set_option linter.unusedVariables false
set_option linter.unusedSimpArgs false
theorem own_ : ownKnob Tryd.prog.godebug = none := by kernel_rfl
theorem laid_ : laidOutB Tryd.prog = true := by kernel_rfl
set_option maxRecDepth 100000 in
theorem lifted (os : Os) (started : os.Started) (H : Type) (enc : TypeId × Value → H) :
    ReturnsInHanded {} Tryd.checked os 3 .any (fun w args => (Rows.contractMatchesReferenceSpec.pre enc Tryd.prog Tryd.f3 [] false w args ∧ laidMetH Tryd.prog laidL w) ∧ sizedMet enc Tryd.prog Tryd.f3 (OpenSpec.ofChange Rows.contractMatchesReferenceSpec) false w args) (Rows.contractMatchesReferenceSpec.post enc Tryd.prog Tryd.f3 false true false false) := by
  refine returnsInHanded_of_change_and (C := Tryd.checked) (X := fun w _ => laidMetH Tryd.prog laidL w) (fun _ _ _ hh h => h.of_heap hh) own_ started (by kernel_rfl) Tryd.func3
    (ChangeSpec.witness_shaped (enc := enc) (C := Tryd.checked) (os := os) (X := fun w _ => laidMetH Tryd.prog laidL w) false (World.doorLaid Tryd.prog 400 os) #[.slice none 0 0, .slice none 0 0, .agg #[.int .i64 0, .int .i64 0, .int .i64 0, .int .i64 0, .int .i64 0, .int .i64 0, .int .i64 0, .int .i64 0, .int .i64 0, .int .i64 0, .int .i64 0, .int .i64 0, .int .i64 0, .int .i64 0, .int .i64 0, .int .i64 0, .int .i64 0], .agg #[.int .i64 0, .int .i64 0], .int .i64 0, .int .i64 0] 8 rfl (World.shaped_of_RefB (by kernel_rfl) (by kernel_rfl)) (by kernel_rfl) (by kernel_rfl) (by kernel_rfl) (door_met os _)) ?_
  intro W base args ds gs before hval0 hW _ _ hL _
  have hG := of_laid hL
  have hval : ∀ (j : Nat) t v, Tryd.f3.params[j]? = some t → args[j]? = some v → Value.okWide Tryd.prog W .any base t v := hval0
  have hW' := hW
  obtain ⟨p, q, hA0, hV, rfl, hfz, hnd⟩ := hW
  have hA : DataW.TrodAll enc Tryd.prog W 0 (fun _ => true) true Tryd.f3.params.toList args.toList ds p := hA0
  rw [Tryd.params3] at hA hval
  obtain ⟨v0, vs0, d0, ds0, p0, q0, hargs, rfl, rfl, h0, r0⟩ := trodAll_cons hA
  obtain ⟨v1, vs1, d1, ds1, p1, q1, rfl, rfl, rfl, h1, r1⟩ := trodAll_cons r0
  obtain ⟨v2, vs2, d2, ds2, p2, q2, rfl, rfl, rfl, h2, r2⟩ := trodAll_cons r1
  obtain ⟨v3, vs3, d3, ds3, p3, q3, rfl, rfl, rfl, h3, r3⟩ := trodAll_cons r2
  obtain ⟨v4, vs4, d4, ds4, p4, q4, rfl, rfl, rfl, h4, r4⟩ := trodAll_cons r3
  obtain ⟨v5, vs5, d5, ds5, p5, q5, rfl, rfl, rfl, h5, r5⟩ := trodAll_cons r4
  obtain ⟨rfl, rfl, rfl⟩ := trodAll_nil r5
  obtain rfl : args = #[v0, v1, v2, v3, v4, v5] := by cases args; simp_all
  obtain ⟨rfl, rfl⟩ := trodVars_none hV
  have k0 := h0
  have lt0 := p_lt k0
  obtain ⟨l0, R0, i0, n0⟩ := p_slice (D := Flat.ty fGArr8Int) (ok := ok61) Tryd.underlying22 (hval 0 22 v0 rfl rfl) h0 cells61 (by decide) (fun cs h => open61 h)
  have k1 := h1
  have lt1 := p_lt k1
  obtain ⟨l1, R1, i1, n1⟩ := p_slice (D := Flat.ty fGArr2Int) (ok := ok62) Tryd.underlying23 (hval 1 23 v1 rfl rfl) h1 cells62 (by decide) (fun cs h => open62 h)
  have k2 := h2
  have lt2 := p_lt k2
  obtain ⟨cs2, rfl, T2⟩ := p_struct Tryd.underlying29 (hval 2 29 v2 rfl rfl) h2
  obtain ⟨hlp2_0, hfp2_0⟩ := TR.struct (t := 29) Tryd.underlying29 T2
  obtain ⟨ap2_0_0, ep2_0_0, ip2_0_0⟩ := TR.int64 Tryd.underlying3 (hfp2_0 0 _ rfl)
  obtain ⟨ap2_0_1, ep2_0_1, ip2_0_1⟩ := TR.int64 Tryd.underlying3 (hfp2_0 1 _ rfl)
  obtain ⟨ap2_0_2, ep2_0_2, ip2_0_2⟩ := TR.int64 Tryd.underlying3 (hfp2_0 2 _ rfl)
  obtain ⟨ap2_0_3, ep2_0_3, ip2_0_3⟩ := TR.int64 Tryd.underlying3 (hfp2_0 3 _ rfl)
  obtain ⟨ap2_0_4, ep2_0_4, ip2_0_4⟩ := TR.int64 Tryd.underlying3 (hfp2_0 4 _ rfl)
  obtain ⟨ap2_0_5, ep2_0_5, ip2_0_5⟩ := TR.int64 Tryd.underlying3 (hfp2_0 5 _ rfl)
  obtain ⟨ap2_0_6, ep2_0_6, ip2_0_6⟩ := TR.int64 Tryd.underlying3 (hfp2_0 6 _ rfl)
  obtain ⟨ap2_0_7, ep2_0_7, ip2_0_7⟩ := TR.int64 Tryd.underlying3 (hfp2_0 7 _ rfl)
  obtain ⟨hlp2_1, hfp2_1⟩ := TR.arr (t := 25) Tryd.underlying25 (hfp2_0 8 _ rfl)
  obtain ⟨ap2_1_0, ep2_1_0, ip2_1_0⟩ := TR.int64 Tryd.underlying3 (hfp2_1 0 (by decide))
  obtain ⟨ap2_1_1, ep2_1_1, ip2_1_1⟩ := TR.int64 Tryd.underlying3 (hfp2_1 1 (by decide))
  obtain ⟨ap2_1_2, ep2_1_2, ip2_1_2⟩ := TR.int64 Tryd.underlying3 (hfp2_1 2 (by decide))
  obtain ⟨ap2_1_3, ep2_1_3, ip2_1_3⟩ := TR.int64 Tryd.underlying3 (hfp2_1 3 (by decide))
  obtain ⟨ap2_1_4, ep2_1_4, ip2_1_4⟩ := TR.int64 Tryd.underlying3 (hfp2_1 4 (by decide))
  obtain ⟨ap2_1_5, ep2_1_5, ip2_1_5⟩ := TR.int64 Tryd.underlying3 (hfp2_1 5 (by decide))
  obtain ⟨ap2_1_6, ep2_1_6, ip2_1_6⟩ := TR.int64 Tryd.underlying3 (hfp2_1 6 (by decide))
  simp only [cells3, Nat.zero_mul, Nat.one_mul, Nat.reduceMul] at ep2_1_0 ep2_1_1 ep2_1_2 ep2_1_3 ep2_1_4 ep2_1_5 ep2_1_6
  have jp2_1 := join_cons rfl ep2_1_0 (join_cons rfl ep2_1_1 (join_cons rfl ep2_1_2 (join_cons rfl ep2_1_3 (join_cons rfl ep2_1_4 (join_cons rfl ep2_1_5 (join_cons rfl ep2_1_6 (join_nil hlp2_1 cells25)))))))
  obtain ⟨hlp2_2, hfp2_2⟩ := TR.struct (t := 27) Tryd.underlying27 (hfp2_0 9 _ rfl)
  obtain ⟨ap2_2_0, ep2_2_0, ip2_2_0⟩ := TR.int64 Tryd.underlying3 (hfp2_2 0 _ rfl)
  obtain ⟨ap2_2_1, ep2_2_1, ip2_2_1⟩ := TR.int64 Tryd.underlying3 (hfp2_2 1 _ rfl)
  have jp2_2 := join_cons cells3 ep2_2_0 (join_cons cells3 ep2_2_1 (join_nil hlp2_2 cells27))
  have jp2_0 := join_cons cells3 ep2_0_0 (join_cons cells3 ep2_0_1 (join_cons cells3 ep2_0_2 (join_cons cells3 ep2_0_3 (join_cons cells3 ep2_0_4 (join_cons cells3 ep2_0_5 (join_cons cells3 ep2_0_6 (join_cons cells3 ep2_0_7 (join_cons cells25 jp2_1 (join_cons cells27 jp2_2 (join_nil hlp2_0 cells29))))))))))
  obtain rfl : cs2 = [.int .i64 ap2_0_0, .int .i64 ap2_0_1, .int .i64 ap2_0_2, .int .i64 ap2_0_3, .int .i64 ap2_0_4, .int .i64 ap2_0_5, .int .i64 ap2_0_6, .int .i64 ap2_0_7, .int .i64 ap2_1_0, .int .i64 ap2_1_1, .int .i64 ap2_1_2, .int .i64 ap2_1_3, .int .i64 ap2_1_4, .int .i64 ap2_1_5, .int .i64 ap2_1_6, .int .i64 ap2_2_0, .int .i64 ap2_2_1] := jp2_0
  have k3 := h3
  have lt3 := p_lt k3
  obtain ⟨cs3, rfl, T3⟩ := p_struct Tryd.underlying31 (hval 3 31 v3 rfl rfl) h3
  obtain ⟨hlp3_0, hfp3_0⟩ := TR.struct (t := 31) Tryd.underlying31 T3
  obtain ⟨ap3_0_0, ep3_0_0, ip3_0_0⟩ := TR.int64 Tryd.underlying3 (hfp3_0 0 _ rfl)
  obtain ⟨ap3_0_1, ep3_0_1, ip3_0_1⟩ := TR.int64 Tryd.underlying3 (hfp3_0 1 _ rfl)
  have jp3_0 := join_cons cells3 ep3_0_0 (join_cons cells3 ep3_0_1 (join_nil hlp3_0 cells31))
  obtain rfl : cs3 = [.int .i64 ap3_0_0, .int .i64 ap3_0_1] := jp3_0
  have k4 := h4
  have lt4 := p_lt k4
  obtain ⟨a4, rfl, i4⟩ := p_int64 Tryd.underlying3 (hval 4 3 v4 rfl rfl) h4
  have k5 := h5
  have lt5 := p_lt k5
  obtain ⟨a5, rfl, i5⟩ := p_int64 Tryd.underlying3 (hval 5 3 v5 rfl rfl) h5
  have hcalls := lawMatches_spec (odd := ⟨ap2_0_0, ap2_0_1, ap2_0_2, ap2_0_3, ap2_0_4, ap2_0_5, ap2_0_6, ap2_0_7, ⟨ap2_1_0, ap2_1_1, ap2_1_2, ap2_1_3, ap2_1_4, ap2_1_5, ap2_1_6⟩, ⟨ap2_2_0, ap2_2_1⟩⟩) (spot := ⟨ap3_0_0, ap3_0_1⟩) hG R0 i0 n0 R1 i1 n1 i4 i5
  refine Calls.mono hcalls.out fun e W' ⟨he, bel⟩ => ?_
  subst he
  exact ⟨_, rfl, _, _, _, [], _, [], hW', trodAll_mk1 (shut_bool Tryd.underlying4 _), (trodAll_cons_mk (Below.trod laid_ (by kernel_rfl) (of_decide_eq_true (by kernel_rfl)) k0 bel lt0) (trodAll_cons_mk (Below.trod laid_ (by kernel_rfl) (of_decide_eq_true (by kernel_rfl)) k1 bel lt1) (trodAll_cons_mk (Below.trod laid_ (by kernel_rfl) (of_decide_eq_true (by kernel_rfl)) k2 bel lt2) (trodAll_cons_mk (Below.trod laid_ (by kernel_rfl) (of_decide_eq_true (by kernel_rfl)) k3 bel lt3) (trodAll_cons_mk (Below.trod laid_ (by kernel_rfl) (of_decide_eq_true (by kernel_rfl)) k4 bel lt4) (trodAll_cons_mk (Below.trod laid_ (by kernel_rfl) (of_decide_eq_true (by kernel_rfl)) k5 bel lt5) trodAll_mk0)))))), rfl, bel.frame _, fun h => by cases h⟩
theorem over : Rows.contractMatchesReferenceRow.holds Tryd.pinned (OpenSpec.ofChange Rows.contractMatchesReferenceSpec) :=
  OpenClaim.holds_of_wide 3 Tryd.f3 rfl rfl rfl rfl rfl rfl rfl ⟨rfl, rfl, rfl, rfl, rfl⟩ rfl rfl rfl rfl rfl (by kernel_rfl) Tryd.func3 (by kernel_rfl)
    (of_decide_eq_true (by kernel_rfl)) (by unfold Func.isWrapper; first | (rw [if_pos (by decide +kernel)]; kernel_rfl) | (rw [if_neg (by decide +kernel)]; exact ⟨rfl, rfl⟩))
    (fun os started H enc _ => lifted os started H enc)
end Go.Proofs.YteplelijhkmbkaaDoor.contractMatchesReference
namespace Go.Proofs.YteplelijhkmbkaaDoor
theorem contractMatchesReference_holds : Rows.ContractMatchesReferenceSaid := contractMatchesReference.over
theorem contractMatchesReference_card : Rows.ContractMatchesReferenceCardSaid :=
  Claim7.holds_tied_plain_at .later [] [.funcs] true (true, "2b1ac9f1e9f844c905ce01b9af2d7fd5db6bfac240c41601e7c4e8e6c5b43193") false
    contractMatchesReference_holds (fun _ h => by cases h) (by kernel_rfl) (fun _ h => by cases h) contractMatchesReference_row_tie rfl ⟨rfl, rfl⟩ (by kernel_rfl) rfl
    (fun f fn hf hfn => by
      obtain rfl : f = 3 := Option.some.inj ((show Tryd.prog.funcNamed "aircheck/airchecklaw12.ContractMatchesReference" = some 3 by kernel_rfl).symm.trans hf) |>.symm
      obtain rfl : fn = Tryd.f3 := (Option.some.inj (Tryd.func3.symm.trans hfn)).symm
      exact ⟨by kernel_rfl, fun j t ht => by
        rw [Tryd.params3] at ht
        have hm : t ∈ [22, 23, 29, 31, 3, 3] := by simpa using Array.mem_of_getElem? ht
        have hall : ([22, 23, 29, 31, 3, 3].all fun u => !Tryd.prog.wantsStandIn u) = true := by kernel_rfl
        exact (show Tryd.prog.wantsStandIn t = false by simpa using List.all_eq_true.1 hall t hm)⟩)
    (by kernel_rfl)
#print axioms contractMatchesReference_card
end Go.Proofs.YteplelijhkmbkaaDoor
