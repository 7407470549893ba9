/- The law BillMatchesReference holds at every input, and its arguments read behind the call as before. No condition. -/
import Derived.Test.YtijnbpnficcpmaaDoorRows
import Derived.Test.YtijnbpnficcpmaaDoorCards
import Derived.Test.YtijnbpnficcpmaaDoorTie
import Derived.Test.YtijnbpnficcpmaaDoorMLaid
import Derived.SevenTiedAt
import Derived.Test.YtijnbpnficcpmaaDoorMB3
import Derived.Test.YtijnbpnficcpmaaDoorMOpen
set_option linter.unusedVariables false
set_option linter.unusedSimpArgs false
namespace Go.Proofs.YtijnbpnficcpmaaDoor.billMatchesReference
open Go Go.Gx Go.RowKit Go.ChangeShapes Go.WideShapes Go.ChangeAt Go.Proofs.YtijnbpnficcpmaaDoor
theorem own_ : ownKnob Tryd.prog.godebug = none := by kernel_rfl
theorem laid_ : laidOutB Tryd.prog = true := by kernel_rfl
set_option maxRecDepth 100000 in
theorem lifted (os : Os) (started : os.Started) (H : Type) (enc : TypeId × Value → H) :
  ReturnsInHanded {} Tryd.checked os 3 .any (fun w args => (Rows.billMatchesReferenceSpec.pre enc Tryd.prog Tryd.f3 [] false w args ∧ laidMetH Tryd.prog Zjb w) ∧ sizedMet enc Tryd.prog Tryd.f3 (OpenSpec.ofChange Rows.billMatchesReferenceSpec) false w args) (Rows.billMatchesReferenceSpec.post enc Tryd.prog Tryd.f3 false true false false) := by
 refine returnsInHanded_of_change_and (C := Tryd.checked) (X := fun w _ => laidMetH Tryd.prog Zjb w) (fun _ _ _ hh h => h.of_heap hh) own_ started (by kernel_rfl) Tryd.func3
  (ChangeSpec.witness_shaped (enc := enc) (C := Tryd.checked) (os := os) (X := fun w _ => laidMetH Tryd.prog Zjb w) false (World.doorLaid Tryd.prog 400 os) #[.agg #[.slice none 0 0, .slice none 0 0, .slice none 0 0, .int .i64 0, .slice none 0 0, .int .i64 0, .slice none 0 0, .slice none 0 0], .slice none 0 0, .slice none 0 0, .int .i64 0, .slice none 0 0, .int .i64 0, .slice none 0 0, .int .i64 0, .int .i64 0, .int .i64 0] 8 rfl (World.shaped_of_RefB (by kernel_rfl) (by kernel_rfl)) (by kernel_rfl) (by kernel_rfl) (by kernel_rfl) (door_met os _)) ?_
 intro W base args ds gs before hval0 hW _ _ hL _
 have hG := of_laid hL
 have hval : ∀ (j : Nat) t v, Tryd.f3.params[j]? = some t → args[j]? = some v → Value.okWide Tryd.prog W .any base t v := hval0
 have hW' := hW
 obtain ⟨p, q, hA0, hV, rfl, hfz, hnd⟩ := hW
 have hA : DataW.TrodAll enc Tryd.prog W 0 (fun _ => true) true Tryd.f3.params.toList args.toList ds p := hA0
 rw [Tryd.params3] at hA hval
 obtain ⟨v0, vs0, d0, ds0, p0, q0, hargs, rfl, rfl, h0, r0⟩ := trodAll_cons hA
 obtain ⟨v1, vs1, d1, ds1, p1, q1, rfl, rfl, rfl, h1, r1⟩ := trodAll_cons r0
 obtain ⟨v2, vs2, d2, ds2, p2, q2, rfl, rfl, rfl, h2, r2⟩ := trodAll_cons r1
 obtain ⟨v3, vs3, d3, ds3, p3, q3, rfl, rfl, rfl, h3, r3⟩ := trodAll_cons r2
 obtain ⟨v4, vs4, d4, ds4, p4, q4, rfl, rfl, rfl, h4, r4⟩ := trodAll_cons r3
 obtain ⟨v5, vs5, d5, ds5, p5, q5, rfl, rfl, rfl, h5, r5⟩ := trodAll_cons r4
 obtain ⟨v6, vs6, d6, ds6, p6, q6, rfl, rfl, rfl, h6, r6⟩ := trodAll_cons r5
 obtain ⟨v7, vs7, d7, ds7, p7, q7, rfl, rfl, rfl, h7, r7⟩ := trodAll_cons r6
 obtain ⟨v8, vs8, d8, ds8, p8, q8, rfl, rfl, rfl, h8, r8⟩ := trodAll_cons r7
 obtain ⟨v9, vs9, d9, ds9, p9, q9, rfl, rfl, rfl, h9, r9⟩ := trodAll_cons r8
 obtain ⟨rfl, rfl, rfl⟩ := trodAll_nil r9
 obtain rfl : args = #[v0, v1, v2, v3, v4, v5, v6, v7, v8, v9] := by cases args; simp_all
 obtain ⟨rfl, rfl⟩ := trodVars_none hV
 have k0 := h0
 have lt0 := p_lt k0
 obtain ⟨cs0, rfl, T0⟩ := p_struct Tryd.underlying30 (hval 0 30 v0 rfl rfl) h0
 obtain ⟨hlp0_0, hfp0_0⟩ := TR.struct (t := 30) Tryd.underlying30 T0
 obtain ⟨vp0_0_0, lp0_0_0, ep0_0_0, Rp0_0_0, ip0_0_0, np0_0_0⟩ := TR.slice (D := Flat.ty Z14) (ok := ok69) Tryd.underlying22 cells70 (by decide) (fun cs h => open69 (TR.same (t' := 69) (by kernel_rfl) (by kernel_rfl) h)) (hfp0_0 0 _ rfl)
 obtain ⟨vp0_0_1, lp0_0_1, ep0_0_1, Rp0_0_1, ip0_0_1, np0_0_1⟩ := TR.slice (D := Flat.ty Z1d) (ok := ok62) Tryd.underlying23 cells63 (by decide) (fun cs h => open62 (TR.same (t' := 62) (by kernel_rfl) (by kernel_rfl) h)) (hfp0_0 1 _ rfl)
 obtain ⟨vp0_0_2, lp0_0_2, ep0_0_2, Rp0_0_2, ip0_0_2, np0_0_2⟩ := TR.slice (D := Flat.ty Z1j) (ok := ok59) Tryd.underlying24 cells60 (by decide) (fun cs h => open59 (TR.same (t' := 59) (by kernel_rfl) (by kernel_rfl) h)) (hfp0_0 2 _ rfl)
 obtain ⟨hlp0_1, hfp0_1⟩ := TR.struct (t := 27) Tryd.underlying27 (hfp0_0 3 _ rfl)
 obtain ⟨ap0_1_0, ep0_1_0, ip0_1_0⟩ := TR.int64 Tryd.underlying3 (hfp0_1 0 _ rfl)
 obtain ⟨vp0_1_1, lp0_1_1, ep0_1_1, Rp0_1_1, ip0_1_1, np0_1_1⟩ := TR.slice (D := Flat.ty Z0o) (ok := ok83) Tryd.underlying25 cells84 (by decide) (fun cs h => open83 (TR.same (t' := 83) (by kernel_rfl) (by kernel_rfl) h)) (hfp0_1 1 _ rfl)
 obtain ⟨ap0_1_2, ep0_1_2, ip0_1_2⟩ := TR.int64 Tryd.underlying3 (hfp0_1 2 _ rfl)
 have jp0_1 := Z1k Z3f ep0_1_0 (Z1k cells25 ep0_1_1 (Z1k Z3f ep0_1_2 (Z4k hlp0_1 Zlg)))
 obtain ⟨vp0_0_4, lp0_0_4, ep0_0_4, Rp0_0_4, ip0_0_4, np0_0_4⟩ := TR.slice (D := Flat.ty (fInt .i64)) (ok := inI) Tryd.underlying28 Z3f (by decide) (fun cs h => TR.int64 Tryd.underlying3 h) (hfp0_0 4 _ rfl)
 obtain ⟨vp0_0_5, lp0_0_5, ep0_0_5, Rp0_0_5, ip0_0_5, np0_0_5⟩ := TR.slice (D := Flat.ty (fInt .i64)) (ok := inI) Tryd.underlying28 Z3f (by decide) (fun cs h => TR.int64 Tryd.underlying3 h) (hfp0_0 5 _ rfl)
 have jp0_0 := Z1k cells22 ep0_0_0 (Z1k cells23 ep0_0_1 (Z1k cells24 ep0_0_2 (Z1k Zlg jp0_1 (Z1k Zlh ep0_0_4 (Z1k Zlh ep0_0_5 (Z4k hlp0_0 cells30))))))
 obtain rfl : cs0 = [vp0_0_0, vp0_0_1, vp0_0_2, .int .i64 ap0_1_0, vp0_1_1, .int .i64 ap0_1_2, vp0_0_4, vp0_0_5] := jp0_0
 have k1 := h1
 have lt1 := p_lt k1
 obtain ⟨l1, R1, i1, n1⟩ := Zcv (D := Flat.ty Zaq) (ok := ok85) Tryd.underlying31 (hval 1 31 v1 rfl rfl) h1 Zli (by decide) (fun cs h => open85 h)
 have k2 := h2
 have lt2 := p_lt k2
 obtain ⟨l2, R2, i2, n2⟩ := Zcv (D := Flat.ty Zar) (ok := ok86) Tryd.underlying32 (hval 2 32 v2 rfl rfl) h2 Zlj (by decide) (fun cs h => open86 h)
 have k3 := h3
 have lt3 := p_lt k3
 obtain ⟨a3, rfl, i3⟩ := Zau Tryd.underlying3 (hval 3 3 v3 rfl rfl) h3
 have k4 := h4
 have lt4 := p_lt k4
 obtain ⟨l4, R4, i4, n4⟩ := Zcv (D := Flat.ty (fInt .i64)) (ok := inI) Tryd.underlying28 (hval 4 28 v4 rfl rfl) h4 Z3f (by decide) (fun cs h => TR.int64 Tryd.underlying3 h)
 have k5 := h5
 have lt5 := p_lt k5
 obtain ⟨a5, rfl, i5⟩ := Zau Tryd.underlying3 (hval 5 3 v5 rfl rfl) h5
 have k6 := h6
 have lt6 := p_lt k6
 obtain ⟨l6, R6, i6, n6⟩ := Zcv (D := Flat.ty Zas) (ok := ok87) Tryd.underlying33 (hval 6 33 v6 rfl rfl) h6 Zlk (by decide) (fun cs h => open87 h)
 have k7 := h7
 have lt7 := p_lt k7
 obtain ⟨a7, rfl, i7⟩ := Zau Tryd.underlying3 (hval 7 3 v7 rfl rfl) h7
 have k8 := h8
 have lt8 := p_lt k8
 obtain ⟨a8, rfl, i8⟩ := Zau Tryd.underlying3 (hval 8 3 v8 rfl rfl) h8
 have k9 := h9
 have lt9 := p_lt k9
 obtain ⟨a9, rfl, i9⟩ := Zau Tryd.underlying3 (hval 9 3 v9 rfl rfl) h9
 have hcalls := Zbs hG Rp0_0_0 ip0_0_0 np0_0_0 Rp0_0_1 ip0_0_1 np0_0_1 Rp0_0_2 ip0_0_2 np0_0_2 ip0_1_0 Rp0_1_1 ip0_1_1 np0_1_1 ip0_1_2 Rp0_0_4 ip0_0_4 np0_0_4 Rp0_0_5 ip0_0_5 np0_0_5 R1 i1 n1 R2 i2 n2 i3 R4 i4 n4 i5 R6 i6 n6 i7 i8 i9
 refine Calls.mono hcalls.out fun e W' ⟨he, bel⟩ => ?_
 subst he
 exact ⟨_, rfl, _, _, _, [], _, [], hW', trodAll_mk1 (shut_bool Tryd.underlying4 _), (trodAll_cons_mk (Below.trod laid_ (by kernel_rfl) (of_decide_eq_true (by kernel_rfl)) k0 bel lt0) (trodAll_cons_mk (Below.trod laid_ (by kernel_rfl) (of_decide_eq_true (by kernel_rfl)) k1 bel lt1) (trodAll_cons_mk (Below.trod laid_ (by kernel_rfl) (of_decide_eq_true (by kernel_rfl)) k2 bel lt2) (trodAll_cons_mk (Below.trod laid_ (by kernel_rfl) (of_decide_eq_true (by kernel_rfl)) k3 bel lt3) (trodAll_cons_mk (Below.trod laid_ (by kernel_rfl) (of_decide_eq_true (by kernel_rfl)) k4 bel lt4) (trodAll_cons_mk (Below.trod laid_ (by kernel_rfl) (of_decide_eq_true (by kernel_rfl)) k5 bel lt5) (trodAll_cons_mk (Below.trod laid_ (by kernel_rfl) (of_decide_eq_true (by kernel_rfl)) k6 bel lt6) (trodAll_cons_mk (Below.trod laid_ (by kernel_rfl) (of_decide_eq_true (by kernel_rfl)) k7 bel lt7) (trodAll_cons_mk (Below.trod laid_ (by kernel_rfl) (of_decide_eq_true (by kernel_rfl)) k8 bel lt8) (trodAll_cons_mk (Below.trod laid_ (by kernel_rfl) (of_decide_eq_true (by kernel_rfl)) k9 bel lt9) trodAll_mk0)))))))))), rfl, bel.frame _, fun h => by cases h⟩
theorem over : Rows.billMatchesReferenceRow.holds Tryd.pinned (OpenSpec.ofChange Rows.billMatchesReferenceSpec) :=
 OpenClaim.holds_of_wide 3 Tryd.f3 rfl rfl rfl rfl rfl rfl rfl ⟨rfl, rfl, rfl, rfl, rfl⟩ rfl rfl rfl rfl rfl (by kernel_rfl) Tryd.func3 (by kernel_rfl)
  (of_decide_eq_true (by kernel_rfl)) (by unfold Func.isWrapper; first | (rw [if_pos (by decide +kernel)]; kernel_rfl) | (rw [if_neg (by decide +kernel)]; exact ⟨rfl, rfl⟩))
  (fun os started H enc _ => lifted os started H enc)
end Go.Proofs.YtijnbpnficcpmaaDoor.billMatchesReference
namespace Go.Proofs.YtijnbpnficcpmaaDoor
theorem billMatchesReference_holds : Rows.BillMatchesReferenceSaid := billMatchesReference.over
theorem billMatchesReference_card : Rows.BillMatchesReferenceCardSaid :=
 Claim7.holds_tied_plain_at .later [] [.funcs] true (true, "82253a3f78194241c659ccca32a0eafd4057f6e6a13a58b539e17252431ab20c") false
  billMatchesReference_holds (fun _ h => by cases h) (by kernel_rfl) (fun _ h => by cases h) billMatchesReference_row_tie rfl ⟨rfl, rfl⟩ (by kernel_rfl) rfl
  (fun f fn hf hfn => by
   obtain rfl : f = 3 := Option.some.inj ((show Tryd.prog.funcNamed "aircheck/airchecklaw39.BillMatchesReference" = some 3 by kernel_rfl).symm.trans hf) |>.symm
   obtain rfl : fn = Tryd.f3 := (Option.some.inj (Tryd.func3.symm.trans hfn)).symm
   exact ⟨by kernel_rfl, fun j t ht => by
    rw [Tryd.params3] at ht
    have hm : t ∈ [30, 31, 32, 3, 28, 3, 33, 3, 3, 3] := by simpa using Array.mem_of_getElem? ht
    have hall : ([30, 31, 32, 3, 28, 3, 33, 3, 3, 3].all fun u => !Tryd.prog.wantsStandIn u) = true := by kernel_rfl
    exact (show Tryd.prog.wantsStandIn t = false by simpa using List.all_eq_true.1 hall t hm)⟩)
  (by kernel_rfl)
#print axioms billMatchesReference_card
end Go.Proofs.YtijnbpnficcpmaaDoor
