/- The law EqualMatchesReference holds at every input, and its arguments read behind the call as before. No condition. -/
import Derived.Test.YtcbidfedffegpaaRows
import Derived.Test.YtcbidfedffegpaaZC
import Derived.Test.YtcbidfedffegpaaOpen
namespace Go.Proofs.Ytcbidfedffegpaa.equalMatchesReference
open Go Go.Gx Go.RowKit Go.ChangeShapes Go.WideShapes Go.ChangeAt Go.Proofs.Ytcbidfedffegpaa
set_option linter.unusedVariables false
set_option linter.unusedSimpArgs false
theorem own_ : ownKnob Try.prog.godebug = none := by kernel_rfl
theorem laid_ : laidOutB Try.prog = true := by kernel_rfl
set_option maxRecDepth 100000 in
theorem lifted (os : Os) (started : os.Started) (H : Type) (enc : TypeId × Value → H) :
    ReturnsInHanded {} Try.checked os 3 .any (Rows.equalMatchesReferenceSpec.pre6 enc Try.prog Try.f3 Rows.equalMatchesReferenceRow.domain false) (Rows.equalMatchesReferenceSpec.post enc Try.prog Try.f3 false true false false) := by
  refine returnsInHanded_of_change_sized (C := Try.checked) own_ started (by kernel_rfl) Try.func3
    (ChangeSpec.witness6 (enc := enc) (C := Try.checked) false ⟨#[], #[.slice none 0 0, .int .i64 0, .slice none 0 0, .int .i64 0], []⟩ 8 (by kernel_rfl) (by kernel_rfl) (by kernel_rfl) (by kernel_rfl)) ?_
  intro W base args ds gs before hval0 hW hcnd hsz0 _
  have hval : ∀ (j : Nat) t v, Try.f3.params[j]? = some t → args[j]? = some v → Value.okWide Try.prog W .any base t v := hval0
  have hW' := hW
  obtain ⟨p, q, hA0, hV, rfl, hfz, hnd⟩ := hW
  have hA : DataW.TrodAll enc Try.prog W 0 (fun _ => true) true Try.f3.params.toList args.toList ds p := hA0
  rw [Try.params3] at hA hval
  obtain ⟨v0, vs0, d0, ds0, p0, q0, hargs, rfl, rfl, h0, r0⟩ := trodAll_cons hA
  obtain ⟨v1, vs1, d1, ds1, p1, q1, rfl, rfl, rfl, h1, r1⟩ := trodAll_cons r0
  obtain ⟨v2, vs2, d2, ds2, p2, q2, rfl, rfl, rfl, h2, r2⟩ := trodAll_cons r1
  obtain ⟨v3, vs3, d3, ds3, p3, q3, rfl, rfl, rfl, h3, r3⟩ := trodAll_cons r2
  obtain ⟨rfl, rfl, rfl⟩ := trodAll_nil r3
  obtain rfl : args = #[v0, v1, v2, v3] := by cases args; simp_all
  obtain ⟨rfl, rfl⟩ := trodVars_none hV
  have k0 := h0
  have lt0 := p_lt k0
  obtain ⟨l0, R0, i0, n0⟩ := p_slice (D := Flat.ty fGAppearance) (ok := ok48) Try.underlying22 (hval 0 22 v0 rfl rfl) h0 cells49 (by decide) (fun cs h => open48 (TR.same (t' := 48) (by kernel_rfl) (by kernel_rfl) h))
  have k1 := h1
  have lt1 := p_lt k1
  obtain ⟨a1, rfl, i1⟩ := p_int64 Try.underlying3 (hval 1 3 v1 rfl rfl) h1
  have k2 := h2
  have lt2 := p_lt k2
  obtain ⟨l2, R2, i2, n2⟩ := p_slice (D := Flat.ty fGArr4Int) (ok := ok53) Try.underlying23 (hval 2 23 v2 rfl rfl) h2 cells53 (by decide) (fun cs h => open53 h)
  have k3 := h3
  have lt3 := p_lt k3
  obtain ⟨a3, rfl, i3⟩ := p_int64 Try.underlying3 (hval 3 3 v3 rfl rfl) h3
  have hcalls := matches_spec R0 i0 n0 i1 R2 i2 n2 i3
  refine Calls.mono hcalls.out fun e W' ⟨he, bel⟩ => ?_
  subst he
  exact ⟨_, rfl, _, _, _, [], _, [], hW', trodAll_mk1 (shut_bool Try.underlying4 _), (trodAll_cons_mk (Below.trod laid_ (by kernel_rfl) (of_decide_eq_true (by kernel_rfl)) k0 bel lt0) (trodAll_cons_mk (Below.trod laid_ (by kernel_rfl) (of_decide_eq_true (by kernel_rfl)) k1 bel lt1) (trodAll_cons_mk (Below.trod laid_ (by kernel_rfl) (of_decide_eq_true (by kernel_rfl)) k2 bel lt2) (trodAll_cons_mk (Below.trod laid_ (by kernel_rfl) (of_decide_eq_true (by kernel_rfl)) k3 bel lt3) trodAll_mk0)))), rfl, bel.frame _, fun h => by cases h⟩
theorem over : Rows.equalMatchesReferenceRow.holds Try.pinned (OpenSpec.ofChange Rows.equalMatchesReferenceSpec) :=
  OpenClaim.holds_of_wide 3 Try.f3 rfl rfl rfl rfl rfl rfl rfl ⟨rfl, rfl, rfl, rfl, rfl⟩ rfl rfl rfl rfl rfl (by kernel_rfl) Try.func3 (by kernel_rfl)
    (of_decide_eq_true (by kernel_rfl)) (by unfold Func.isWrapper; first | (rw [if_pos (by decide +kernel)]; kernel_rfl) | (rw [if_neg (by decide +kernel)]; exact ⟨rfl, rfl⟩))
    (fun os started H enc _ => lifted os started H enc)
end Go.Proofs.Ytcbidfedffegpaa.equalMatchesReference
namespace Go.Proofs.Ytcbidfedffegpaa
theorem equalMatchesReference_holds : Rows.EqualMatchesReferenceSaid := equalMatchesReference.over
#print axioms equalMatchesReference_holds
end Go.Proofs.Ytcbidfedffegpaa
