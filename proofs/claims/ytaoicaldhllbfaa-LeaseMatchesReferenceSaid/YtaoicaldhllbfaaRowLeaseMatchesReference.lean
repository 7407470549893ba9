/- The law LeaseMatchesReference holds at every input, and its arguments read behind the call as before. No condition. -/
import Derived.Test.YtaoicaldhllbfaaRows
import Derived.Test.YtaoicaldhllbfaaAD
import Derived.Test.YtaoicaldhllbfaaOpen
namespace Go.Proofs.Ytaoicaldhllbfaa.leaseMatchesReference
open Go Go.Gx Go.RowKit Go.ChangeShapes Go.WideShapes Go.ChangeAt Go.Proofs.Ytaoicaldhllbfaa
set_option linter.unusedVariables false
set_option linter.unusedSimpArgs false
theorem own_ : ownKnob Try.prog.godebug = none := by kernel_rfl
theorem laid_ : laidOutB Try.prog = true := by kernel_rfl
set_option maxRecDepth 100000 in
theorem lifted (os : Os) (started : os.Started) (H : Type) (enc : TypeId × Value → H) :
    ReturnsInHanded {} Try.checked os 3 .any (Rows.leaseMatchesReferenceSpec.pre6 enc Try.prog Try.f3 Rows.leaseMatchesReferenceRow.domain false) (Rows.leaseMatchesReferenceSpec.post enc Try.prog Try.f3 false true false false) := by
  refine returnsInHanded_of_change_sized (C := Try.checked) own_ started (by kernel_rfl) Try.func3
    (ChangeSpec.witness6 (enc := enc) (C := Try.checked) false ⟨#[], #[.slice none 0 0, .agg #[.int .i64 0, .int .i64 0, .int .i64 0, .int .i64 0, .int .i64 0, .int .i64 0, .int .i64 0, .int .i64 0, .slice none 0 0, .slice none 0 0, .slice none 0 0, .slice none 0 0, .slice none 0 0], .agg #[.int .i64 0, .int .i64 0, .int .i64 0, .int .i64 0, .int .i64 0, .int .i64 0], .slice none 0 0, .int .i64 0, .int .i64 0, .int .i64 0, .int .i64 0], []⟩ 8 (by kernel_rfl) (by kernel_rfl) (by kernel_rfl) (by kernel_rfl)) ?_
  intro W base args ds gs before hval0 hW hcnd hsz0 _
  have hval : ∀ (j : Nat) t v, Try.f3.params[j]? = some t → args[j]? = some v → Value.okWide Try.prog W .any base t v := hval0
  have hW' := hW
  obtain ⟨p, q, hA0, hV, rfl, hfz, hnd⟩ := hW
  have hA : DataW.TrodAll enc Try.prog W 0 (fun _ => true) true Try.f3.params.toList args.toList ds p := hA0
  rw [Try.params3] at hA hval
  obtain ⟨v0, vs0, d0, ds0, p0, q0, hargs, rfl, rfl, h0, r0⟩ := trodAll_cons hA
  obtain ⟨v1, vs1, d1, ds1, p1, q1, rfl, rfl, rfl, h1, r1⟩ := trodAll_cons r0
  obtain ⟨v2, vs2, d2, ds2, p2, q2, rfl, rfl, rfl, h2, r2⟩ := trodAll_cons r1
  obtain ⟨v3, vs3, d3, ds3, p3, q3, rfl, rfl, rfl, h3, r3⟩ := trodAll_cons r2
  obtain ⟨v4, vs4, d4, ds4, p4, q4, rfl, rfl, rfl, h4, r4⟩ := trodAll_cons r3
  obtain ⟨v5, vs5, d5, ds5, p5, q5, rfl, rfl, rfl, h5, r5⟩ := trodAll_cons r4
  obtain ⟨v6, vs6, d6, ds6, p6, q6, rfl, rfl, rfl, h6, r6⟩ := trodAll_cons r5
  obtain ⟨v7, vs7, d7, ds7, p7, q7, rfl, rfl, rfl, h7, r7⟩ := trodAll_cons r6
  obtain ⟨rfl, rfl, rfl⟩ := trodAll_nil r7
  obtain rfl : args = #[v0, v1, v2, v3, v4, v5, v6, v7] := by cases args; simp_all
  obtain ⟨rfl, rfl⟩ := trodVars_none hV
  have k0 := h0
  have lt0 := p_lt k0
  obtain ⟨l0, R0, i0, n0⟩ := p_slice (D := Flat.ty fGRequest) (ok := ok49) Try.underlying22 (hval 0 22 v0 rfl rfl) h0 cells50 (by decide) (fun cs h => open49 (TR.same (t' := 49) (by kernel_rfl) (by kernel_rfl) h))
  have k1 := h1
  have lt1 := p_lt k1
  obtain ⟨cs1, rfl, T1⟩ := p_struct Try.underlying28 (hval 1 28 v1 rfl rfl) h1
  obtain ⟨hlp1_0, hfp1_0⟩ := TR.struct (t := 28) Try.underlying28 T1
  obtain ⟨hlp1_1, hfp1_1⟩ := TR.arr (t := 23) Try.underlying23 (hfp1_0 0 _ rfl)
  obtain ⟨ap1_1_0, ep1_1_0, ip1_1_0⟩ := TR.int64 Try.underlying3 (hfp1_1 0 (by decide))
  obtain ⟨ap1_1_1, ep1_1_1, ip1_1_1⟩ := TR.int64 Try.underlying3 (hfp1_1 1 (by decide))
  obtain ⟨ap1_1_2, ep1_1_2, ip1_1_2⟩ := TR.int64 Try.underlying3 (hfp1_1 2 (by decide))
  obtain ⟨ap1_1_3, ep1_1_3, ip1_1_3⟩ := TR.int64 Try.underlying3 (hfp1_1 3 (by decide))
  simp only [cells3, Nat.zero_mul, Nat.one_mul, Nat.reduceMul] at ep1_1_0 ep1_1_1 ep1_1_2 ep1_1_3
  have jp1_1 := join_cons rfl ep1_1_0 (join_cons rfl ep1_1_1 (join_cons rfl ep1_1_2 (join_cons rfl ep1_1_3 (join_nil hlp1_1 cells23))))
  obtain ⟨hlp1_2, hfp1_2⟩ := TR.arr (t := 23) Try.underlying23 (hfp1_0 1 _ rfl)
  obtain ⟨ap1_2_0, ep1_2_0, ip1_2_0⟩ := TR.int64 Try.underlying3 (hfp1_2 0 (by decide))
  obtain ⟨ap1_2_1, ep1_2_1, ip1_2_1⟩ := TR.int64 Try.underlying3 (hfp1_2 1 (by decide))
  obtain ⟨ap1_2_2, ep1_2_2, ip1_2_2⟩ := TR.int64 Try.underlying3 (hfp1_2 2 (by decide))
  obtain ⟨ap1_2_3, ep1_2_3, ip1_2_3⟩ := TR.int64 Try.underlying3 (hfp1_2 3 (by decide))
  simp only [cells3, Nat.zero_mul, Nat.one_mul, Nat.reduceMul] at ep1_2_0 ep1_2_1 ep1_2_2 ep1_2_3
  have jp1_2 := join_cons rfl ep1_2_0 (join_cons rfl ep1_2_1 (join_cons rfl ep1_2_2 (join_cons rfl ep1_2_3 (join_nil hlp1_2 cells23))))
  obtain ⟨hlp1_3, hfp1_3⟩ := TR.arr (t := 25) Try.underlying25 (hfp1_0 2 _ rfl)
  obtain ⟨vp1_3_0, lp1_3_0, ep1_3_0, Rp1_3_0, ip1_3_0, np1_3_0⟩ := TR.slice (D := Flat.ty (fInt .i64)) (ok := inI) Try.underlying24 cells3 (by decide) (fun cs h => TR.int64 Try.underlying3 h) (hfp1_3 0 (by decide))
  obtain ⟨vp1_3_1, lp1_3_1, ep1_3_1, Rp1_3_1, ip1_3_1, np1_3_1⟩ := TR.slice (D := Flat.ty (fInt .i64)) (ok := inI) Try.underlying24 cells3 (by decide) (fun cs h => TR.int64 Try.underlying3 h) (hfp1_3 1 (by decide))
  obtain ⟨vp1_3_2, lp1_3_2, ep1_3_2, Rp1_3_2, ip1_3_2, np1_3_2⟩ := TR.slice (D := Flat.ty (fInt .i64)) (ok := inI) Try.underlying24 cells3 (by decide) (fun cs h => TR.int64 Try.underlying3 h) (hfp1_3 2 (by decide))
  obtain ⟨vp1_3_3, lp1_3_3, ep1_3_3, Rp1_3_3, ip1_3_3, np1_3_3⟩ := TR.slice (D := Flat.ty (fInt .i64)) (ok := inI) Try.underlying24 cells3 (by decide) (fun cs h => TR.int64 Try.underlying3 h) (hfp1_3 3 (by decide))
  simp only [cells24, Nat.zero_mul, Nat.one_mul, Nat.reduceMul] at ep1_3_0 ep1_3_1 ep1_3_2 ep1_3_3
  have jp1_3 := join_cons rfl ep1_3_0 (join_cons rfl ep1_3_1 (join_cons rfl ep1_3_2 (join_cons rfl ep1_3_3 (join_nil hlp1_3 cells25))))
  obtain ⟨vp1_0_3, lp1_0_3, ep1_0_3, Rp1_0_3, ip1_0_3, np1_0_3⟩ := TR.slice (D := Flat.ty fGArr5Int) (ok := ok59) Try.underlying26 cells59 (by decide) (fun cs h => open59 h) (hfp1_0 3 _ rfl)
  have jp1_0 := join_cons cells23 jp1_1 (join_cons cells23 jp1_2 (join_cons cells25 jp1_3 (join_cons cells26 ep1_0_3 (join_nil hlp1_0 cells28))))
  obtain rfl : cs1 = [.int .i64 ap1_1_0, .int .i64 ap1_1_1, .int .i64 ap1_1_2, .int .i64 ap1_1_3, .int .i64 ap1_2_0, .int .i64 ap1_2_1, .int .i64 ap1_2_2, .int .i64 ap1_2_3, vp1_3_0, vp1_3_1, vp1_3_2, vp1_3_3, vp1_0_3] := jp1_0
  have k2 := h2
  have lt2 := p_lt k2
  obtain ⟨cs2, rfl, T2⟩ := p_struct Try.underlying30 (hval 2 30 v2 rfl rfl) h2
  obtain ⟨hlp2_0, hfp2_0⟩ := TR.struct (t := 30) Try.underlying30 T2
  obtain ⟨ap2_0_0, ep2_0_0, ip2_0_0⟩ := TR.int64 Try.underlying3 (hfp2_0 0 _ rfl)
  obtain ⟨ap2_0_1, ep2_0_1, ip2_0_1⟩ := TR.int64 Try.underlying3 (hfp2_0 1 _ rfl)
  obtain ⟨ap2_0_2, ep2_0_2, ip2_0_2⟩ := TR.int64 Try.underlying3 (hfp2_0 2 _ rfl)
  obtain ⟨ap2_0_3, ep2_0_3, ip2_0_3⟩ := TR.int64 Try.underlying3 (hfp2_0 3 _ rfl)
  obtain ⟨ap2_0_4, ep2_0_4, ip2_0_4⟩ := TR.int64 Try.underlying3 (hfp2_0 4 _ rfl)
  obtain ⟨ap2_0_5, ep2_0_5, ip2_0_5⟩ := TR.int64 Try.underlying3 (hfp2_0 5 _ rfl)
  have jp2_0 := join_cons cells3 ep2_0_0 (join_cons cells3 ep2_0_1 (join_cons cells3 ep2_0_2 (join_cons cells3 ep2_0_3 (join_cons cells3 ep2_0_4 (join_cons cells3 ep2_0_5 (join_nil hlp2_0 cells30))))))
  obtain rfl : cs2 = [.int .i64 ap2_0_0, .int .i64 ap2_0_1, .int .i64 ap2_0_2, .int .i64 ap2_0_3, .int .i64 ap2_0_4, .int .i64 ap2_0_5] := jp2_0
  have k3 := h3
  have lt3 := p_lt k3
  obtain ⟨l3, R3, i3, n3⟩ := p_slice (D := Flat.ty fGLease) (ok := ok29) Try.underlying31 (hval 3 31 v3 rfl rfl) h3 cells30 (by decide) (fun cs h => open29 (TR.same (t' := 29) (by kernel_rfl) (by kernel_rfl) h))
  have k4 := h4
  have lt4 := p_lt k4
  obtain ⟨a4, rfl, i4⟩ := p_int64 Try.underlying3 (hval 4 3 v4 rfl rfl) h4
  have k5 := h5
  have lt5 := p_lt k5
  obtain ⟨a5, rfl, i5⟩ := p_int64 Try.underlying3 (hval 5 3 v5 rfl rfl) h5
  have k6 := h6
  have lt6 := p_lt k6
  obtain ⟨a6, rfl, i6⟩ := p_int64 Try.underlying3 (hval 6 3 v6 rfl rfl) h6
  have k7 := h7
  have lt7 := p_lt k7
  obtain ⟨a7, rfl, i7⟩ := p_int64 Try.underlying3 (hval 7 3 v7 rfl rfl) h7
  have hcalls := leaseMatches_row R0 n0 (stry_ok ip1_1_0 ip1_1_1 ip1_1_2 ip1_1_3 ip1_2_0 ip1_2_1 ip1_2_2 ip1_2_3 Rp1_3_0 ip1_3_0 np1_3_0 Rp1_3_1 ip1_3_1 np1_3_1 Rp1_3_2 ip1_3_2 np1_3_2 Rp1_3_3 ip1_3_3 np1_3_3 Rp1_0_3 ip1_0_3 np1_0_3) ip2_0_0 ip2_0_1 ip2_0_2 ip2_0_3 ip2_0_4 ip2_0_5 R3 n3 i4 i5 i6 i7
  refine Calls.mono hcalls.out fun e W' ⟨he, bel⟩ => ?_
  subst he
  exact ⟨_, rfl, _, _, _, [], _, [], hW', trodAll_mk1 (shut_bool Try.underlying4 _), (trodAll_cons_mk (Below.trod laid_ (by kernel_rfl) (of_decide_eq_true (by kernel_rfl)) k0 bel lt0) (trodAll_cons_mk (Below.trod laid_ (by kernel_rfl) (of_decide_eq_true (by kernel_rfl)) k1 bel lt1) (trodAll_cons_mk (Below.trod laid_ (by kernel_rfl) (of_decide_eq_true (by kernel_rfl)) k2 bel lt2) (trodAll_cons_mk (Below.trod laid_ (by kernel_rfl) (of_decide_eq_true (by kernel_rfl)) k3 bel lt3) (trodAll_cons_mk (Below.trod laid_ (by kernel_rfl) (of_decide_eq_true (by kernel_rfl)) k4 bel lt4) (trodAll_cons_mk (Below.trod laid_ (by kernel_rfl) (of_decide_eq_true (by kernel_rfl)) k5 bel lt5) (trodAll_cons_mk (Below.trod laid_ (by kernel_rfl) (of_decide_eq_true (by kernel_rfl)) k6 bel lt6) (trodAll_cons_mk (Below.trod laid_ (by kernel_rfl) (of_decide_eq_true (by kernel_rfl)) k7 bel lt7) trodAll_mk0)))))))), rfl, bel.frame _, fun h => by cases h⟩
theorem over : Rows.leaseMatchesReferenceRow.holds Try.pinned (OpenSpec.ofChange Rows.leaseMatchesReferenceSpec) :=
  OpenClaim.holds_of_wide 3 Try.f3 rfl rfl rfl rfl rfl rfl rfl ⟨rfl, rfl, rfl, rfl, rfl⟩ rfl rfl rfl rfl rfl (by kernel_rfl) Try.func3 (by kernel_rfl)
    (of_decide_eq_true (by kernel_rfl)) (by unfold Func.isWrapper; first | (rw [if_pos (by decide +kernel)]; kernel_rfl) | (rw [if_neg (by decide +kernel)]; exact ⟨rfl, rfl⟩))
    (fun os started H enc _ => lifted os started H enc)
end Go.Proofs.Ytaoicaldhllbfaa.leaseMatchesReference
namespace Go.Proofs.Ytaoicaldhllbfaa
theorem leaseMatchesReference_holds : Rows.LeaseMatchesReferenceSaid := leaseMatchesReference.over
#print axioms leaseMatchesReference_holds
end Go.Proofs.Ytaoicaldhllbfaa
