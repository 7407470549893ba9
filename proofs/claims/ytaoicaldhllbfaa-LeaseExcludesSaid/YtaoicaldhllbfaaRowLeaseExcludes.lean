/- The law LeaseExcludes holds at every input, and its arguments read behind the call as before. No condition. -/
import Derived.Test.YtaoicaldhllbfaaRows
import Derived.Test.YtaoicaldhllbfaaW
import Derived.Test.YtaoicaldhllbfaaOpen
namespace Go.Proofs.Ytaoicaldhllbfaa.leaseExcludes
open Go Go.Gx Go.RowKit Go.ChangeShapes Go.WideShapes Go.ChangeAt Go.Proofs.Ytaoicaldhllbfaa
set_option linter.unusedVariables false
set_option linter.unusedSimpArgs false
theorem own_ : ownKnob Try.prog.godebug = none := by kernel_rfl
theorem laid_ : laidOutB Try.prog = true := by kernel_rfl
set_option maxRecDepth 100000 in
theorem lifted (os : Os) (started : os.Started) (H : Type) (enc : TypeId × Value → H) :
    ReturnsInHanded {} Try.checked os 4 .any (Rows.leaseExcludesSpec.pre6 enc Try.prog Try.f4 Rows.leaseExcludesRow.domain false) (Rows.leaseExcludesSpec.post enc Try.prog Try.f4 false true false false) := by
  refine returnsInHanded_of_change_sized (C := Try.checked) own_ started (by kernel_rfl) Try.func4
    (ChangeSpec.witness6 (enc := enc) (C := Try.checked) false ⟨#[], #[.agg #[.int .i64 0, .int .i64 0, .int .i64 0, .int .i64 0, .int .i64 0, .int .i64 0, .int .i64 0, .int .i64 0, .slice none 0 0, .slice none 0 0, .slice none 0 0, .slice none 0 0, .slice none 0 0], .int .i64 0], []⟩ 8 (by kernel_rfl) (by kernel_rfl) (by kernel_rfl) (by kernel_rfl)) ?_
  intro W base args ds gs before hval0 hW hcnd hsz0 _
  have hval : ∀ (j : Nat) t v, Try.f4.params[j]? = some t → args[j]? = some v → Value.okWide Try.prog W .any base t v := hval0
  have hW' := hW
  obtain ⟨p, q, hA0, hV, rfl, hfz, hnd⟩ := hW
  have hA : DataW.TrodAll enc Try.prog W 0 (fun _ => true) true Try.f4.params.toList args.toList ds p := hA0
  rw [Try.params4] at hA hval
  obtain ⟨v0, vs0, d0, ds0, p0, q0, hargs, rfl, rfl, h0, r0⟩ := trodAll_cons hA
  obtain ⟨v1, vs1, d1, ds1, p1, q1, rfl, rfl, rfl, h1, r1⟩ := trodAll_cons r0
  obtain ⟨rfl, rfl, rfl⟩ := trodAll_nil r1
  obtain rfl : args = #[v0, v1] := by cases args; simp_all
  obtain ⟨rfl, rfl⟩ := trodVars_none hV
  have k0 := h0
  have lt0 := p_lt k0
  obtain ⟨cs0, rfl, T0⟩ := p_struct Try.underlying28 (hval 0 28 v0 rfl rfl) h0
  obtain ⟨hlp0_0, hfp0_0⟩ := TR.struct (t := 28) Try.underlying28 T0
  obtain ⟨hlp0_1, hfp0_1⟩ := TR.arr (t := 23) Try.underlying23 (hfp0_0 0 _ rfl)
  obtain ⟨ap0_1_0, ep0_1_0, ip0_1_0⟩ := TR.int64 Try.underlying3 (hfp0_1 0 (by decide))
  obtain ⟨ap0_1_1, ep0_1_1, ip0_1_1⟩ := TR.int64 Try.underlying3 (hfp0_1 1 (by decide))
  obtain ⟨ap0_1_2, ep0_1_2, ip0_1_2⟩ := TR.int64 Try.underlying3 (hfp0_1 2 (by decide))
  obtain ⟨ap0_1_3, ep0_1_3, ip0_1_3⟩ := TR.int64 Try.underlying3 (hfp0_1 3 (by decide))
  simp only [cells3, Nat.zero_mul, Nat.one_mul, Nat.reduceMul] at ep0_1_0 ep0_1_1 ep0_1_2 ep0_1_3
  have jp0_1 := join_cons rfl ep0_1_0 (join_cons rfl ep0_1_1 (join_cons rfl ep0_1_2 (join_cons rfl ep0_1_3 (join_nil hlp0_1 cells23))))
  obtain ⟨hlp0_2, hfp0_2⟩ := TR.arr (t := 23) Try.underlying23 (hfp0_0 1 _ rfl)
  obtain ⟨ap0_2_0, ep0_2_0, ip0_2_0⟩ := TR.int64 Try.underlying3 (hfp0_2 0 (by decide))
  obtain ⟨ap0_2_1, ep0_2_1, ip0_2_1⟩ := TR.int64 Try.underlying3 (hfp0_2 1 (by decide))
  obtain ⟨ap0_2_2, ep0_2_2, ip0_2_2⟩ := TR.int64 Try.underlying3 (hfp0_2 2 (by decide))
  obtain ⟨ap0_2_3, ep0_2_3, ip0_2_3⟩ := TR.int64 Try.underlying3 (hfp0_2 3 (by decide))
  simp only [cells3, Nat.zero_mul, Nat.one_mul, Nat.reduceMul] at ep0_2_0 ep0_2_1 ep0_2_2 ep0_2_3
  have jp0_2 := join_cons rfl ep0_2_0 (join_cons rfl ep0_2_1 (join_cons rfl ep0_2_2 (join_cons rfl ep0_2_3 (join_nil hlp0_2 cells23))))
  obtain ⟨hlp0_3, hfp0_3⟩ := TR.arr (t := 25) Try.underlying25 (hfp0_0 2 _ rfl)
  obtain ⟨vp0_3_0, lp0_3_0, ep0_3_0, Rp0_3_0, ip0_3_0, np0_3_0⟩ := TR.slice (D := Flat.ty (fInt .i64)) (ok := inI) Try.underlying24 cells3 (by decide) (fun cs h => TR.int64 Try.underlying3 h) (hfp0_3 0 (by decide))
  obtain ⟨vp0_3_1, lp0_3_1, ep0_3_1, Rp0_3_1, ip0_3_1, np0_3_1⟩ := TR.slice (D := Flat.ty (fInt .i64)) (ok := inI) Try.underlying24 cells3 (by decide) (fun cs h => TR.int64 Try.underlying3 h) (hfp0_3 1 (by decide))
  obtain ⟨vp0_3_2, lp0_3_2, ep0_3_2, Rp0_3_2, ip0_3_2, np0_3_2⟩ := TR.slice (D := Flat.ty (fInt .i64)) (ok := inI) Try.underlying24 cells3 (by decide) (fun cs h => TR.int64 Try.underlying3 h) (hfp0_3 2 (by decide))
  obtain ⟨vp0_3_3, lp0_3_3, ep0_3_3, Rp0_3_3, ip0_3_3, np0_3_3⟩ := TR.slice (D := Flat.ty (fInt .i64)) (ok := inI) Try.underlying24 cells3 (by decide) (fun cs h => TR.int64 Try.underlying3 h) (hfp0_3 3 (by decide))
  simp only [cells24, Nat.zero_mul, Nat.one_mul, Nat.reduceMul] at ep0_3_0 ep0_3_1 ep0_3_2 ep0_3_3
  have jp0_3 := join_cons rfl ep0_3_0 (join_cons rfl ep0_3_1 (join_cons rfl ep0_3_2 (join_cons rfl ep0_3_3 (join_nil hlp0_3 cells25))))
  obtain ⟨vp0_0_3, lp0_0_3, ep0_0_3, Rp0_0_3, ip0_0_3, np0_0_3⟩ := TR.slice (D := Flat.ty fGArr5Int) (ok := ok59) Try.underlying26 cells59 (by decide) (fun cs h => open59 h) (hfp0_0 3 _ rfl)
  have jp0_0 := join_cons cells23 jp0_1 (join_cons cells23 jp0_2 (join_cons cells25 jp0_3 (join_cons cells26 ep0_0_3 (join_nil hlp0_0 cells28))))
  obtain rfl : cs0 = [.int .i64 ap0_1_0, .int .i64 ap0_1_1, .int .i64 ap0_1_2, .int .i64 ap0_1_3, .int .i64 ap0_2_0, .int .i64 ap0_2_1, .int .i64 ap0_2_2, .int .i64 ap0_2_3, vp0_3_0, vp0_3_1, vp0_3_2, vp0_3_3, vp0_0_3] := jp0_0
  have k1 := h1
  have lt1 := p_lt k1
  obtain ⟨a1, rfl, i1⟩ := p_int64 Try.underlying3 (hval 1 3 v1 rfl rfl) h1
  have hcalls := leaseExcludes_spec (stry_ok ip0_1_0 ip0_1_1 ip0_1_2 ip0_1_3 ip0_2_0 ip0_2_1 ip0_2_2 ip0_2_3 Rp0_3_0 ip0_3_0 np0_3_0 Rp0_3_1 ip0_3_1 np0_3_1 Rp0_3_2 ip0_3_2 np0_3_2 Rp0_3_3 ip0_3_3 np0_3_3 Rp0_0_3 ip0_0_3 np0_0_3) i1
  refine Calls.mono hcalls fun e W' ⟨he, bel⟩ => ?_
  subst he
  exact ⟨_, rfl, _, _, _, [], _, [], hW', trodAll_mk1 (shut_bool Try.underlying4 _), (trodAll_cons_mk (Below.trod laid_ (by kernel_rfl) (of_decide_eq_true (by kernel_rfl)) k0 bel lt0) (trodAll_cons_mk (Below.trod laid_ (by kernel_rfl) (of_decide_eq_true (by kernel_rfl)) k1 bel lt1) trodAll_mk0)), rfl, bel.frame _, fun h => by cases h⟩
theorem over : Rows.leaseExcludesRow.holds Try.pinned (OpenSpec.ofChange Rows.leaseExcludesSpec) :=
  OpenClaim.holds_of_wide 4 Try.f4 rfl rfl rfl rfl rfl rfl rfl ⟨rfl, rfl, rfl, rfl, rfl⟩ rfl rfl rfl rfl rfl (by kernel_rfl) Try.func4 (by kernel_rfl)
    (of_decide_eq_true (by kernel_rfl)) (by unfold Func.isWrapper; first | (rw [if_pos (by decide +kernel)]; kernel_rfl) | (rw [if_neg (by decide +kernel)]; exact ⟨rfl, rfl⟩))
    (fun os started H enc _ => lifted os started H enc)
end Go.Proofs.Ytaoicaldhllbfaa.leaseExcludes
namespace Go.Proofs.Ytaoicaldhllbfaa
theorem leaseExcludes_holds : Rows.LeaseExcludesSaid := leaseExcludes.over
#print axioms leaseExcludes_holds
end Go.Proofs.Ytaoicaldhllbfaa
