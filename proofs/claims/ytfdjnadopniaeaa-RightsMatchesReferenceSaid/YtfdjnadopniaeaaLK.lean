import Derived.Test.YtfdjnadopniaeaaLH
namespace Go.Proofs.Ytfdjnadopniaeaa
open Go Go.Gx Go.RowKit
open Kuhn
set_option linter.unusedVariables false
set_option linter.unusedSimpArgs false
theorem perI_len (l : List GGrant) (u : GUse) : (perI l u).length ≤ l.length := by
  unfold perI; split
  · exact perN_len ..
  · simp
theorem asnI_rng (l : List GGrant) (us : List GUse) : (asnI l us).1.length ≤ us.length ∧ ∀ k ∈ (asnI l us).1, -9223372036854775808 ≤ k ∧ k ≤ 9223372036854775807 := by
  unfold asnI
  split
  · rename_i h
    obtain ⟨hl, hu, ha⟩ := h
    have hll : l.length ≤ 12 := by unfold validG at hl; rw [Bool.and_eq_true] at hl; exact of_decide_eq_true hl.1
    refine ⟨by simp [iz, greedy_len ha], fun k hk => ?_⟩
    have := greedy_rng hl ha k hk
    omega
  · exact ⟨by simp, fun k hk => by cases hk⟩
theorem lackI_len (l : List GGrant) (us : List GUse) : (lackI l us).1.length ≤ us.length := by
  unfold lackI
  split
  · cases h : lackP (prmN l us) (plyN l) l.length us.length with
    | none => simp [lackM]
    | some X =>
      have := (lackP_some h).1.length_le
      simpa [lackM, iz] using this
  · simp
theorem leftI_len {l : List GGrant} (us : List GUse) (ks : List Int) : (leftI l us ks).length ≤ l.length := by
  unfold leftI
  split
  · rename_i h
    cases e : leftF l us ks ks.length with
    | none => simp
    | some o => exact Nat.le_of_eq (leftF_ok (ok_of h.1) e).1
  · simp
theorem wdI_len0 (l : List GGrant) (n t : Int) : (wdI l n t).length ≤ l.length := by
  unfold wdI
  split
  · exact wdN_len l n t l.length
  · simp
theorem same_is0 {v v2 : Value} {l m : List GGrant} {b : Bool} {w : World} (hr : Rd fGGrant.ty w v l) (hr2 : Rd fGGrant.ty w v2 m) (hl : l.length ≤ 1000) (hm : m.length ≤ 1000) (h : decide (l = m) = b) : CallsV Try.prog 17 #[v, v2] w (.bool b) := by rw [← h]; exact sameG_spec hr hr2 (by omega) (by omega)
theorem take_min {α : Type} (l : List α) (n : Nat) : l.take (min (l.length : Int) (n : Int)).toNat = l.take n := by
  rw [List.take_eq_take_iff]; omega
/-- A slice's header. -/
abbrev SH := Option Addr × Nat × Nat
def shV (x : SH) : Value := .slice x.1 x.2.1 x.2.2
def fSh : Flat SH := ⟨1, fun x => [shV x], fun _ => rfl⟩
set_option maxRecDepth 20000 in
set_option maxHeartbeats 16000000 in
theorem rightsMatchesReference_spec {P1 : GGrant → Prop} {P2 : GUse → Prop} {vr vs vx vy va : Value} {raw : List GGrant} {some_ : List GUse} {xs : List GArr5Int} {ys : List GArr4Int} {asg : List Int} {item at_ : Int} {w0 : World}
    (hrr : Rd fGGrant.ty w0 vr raw) (hrI : ∀ x ∈ raw, P1 x) (hrl : raw.length ≤ maxLen) (hrs : Rd fGUse.ty w0 vs some_) (hsI : ∀ x ∈ some_, P2 x) (hsl : some_.length ≤ maxLen)
    (hrx : Rd fGArr5Int.ty w0 vx xs) (hx : ∀ x ∈ xs, okA5 x) (hxl : xs.length ≤ maxLen) (hry : Rd fGArr4Int.ty w0 vy ys) (hy : ∀ x ∈ ys, okA4 x) (hyl : ys.length ≤ maxLen)
    (hra : Rd (fInt .i64).ty w0 va asg) (ha : ∀ x ∈ asg, inI x) (hal : asg.length ≤ maxLen) (i2 : inI item) (i3 : inI at_) :
    CallsV Try.prog 3 #[vr, vs, vx, vy, va, .int .i64 item, .int .i64 at_] w0 (.bool true) := by
  have S := St.start w0
  unfold inI at i2 i3
  simp only [maxLen] at hrl hsl hal
  have mG := madeG_len xs
  have mU := madeU_len ys
  obtain ⟨Ar, cr, hz⟩ := hrr.len; subst hz
  obtain ⟨As, cs, hz⟩ := hrs.len; subst hz
  obtain ⟨Aa, ca, hz⟩ := hra.len; subst hz
  obtain ⟨n, hn⟩ : ∃ z, pickI item 4 = z := ⟨_, rfl⟩
  obtain ⟨t, ht⟩ : ∃ z, pickI at_ 1000 = z := ⟨_, rfl⟩
  refine CallsV.mk ?_
  refine calls_enter Try.func3 rfl (by intro _ h; first | exact nomatch h.1 | (obtain ⟨_, h, _⟩ := h; exact nomatch h)) Try.ntmps3 rfl ?_
  repeat' (first | refine WP_seq ?_ | refine WP_region ?_ | refine wl_nil ?_ | refine then_normal ?_ | refine WP_skip ?_ | refine WP_condF rfl ?_ | (refine WP_drawJ (fun w' => St w0 w' []) [0,1,2,3,4,5] [6] [7,8] (by kernel_rfl) (by decide) (by decide +kernel) (fun w' hb => (S.grow hb).keep []) ?_; intro w hb; replace S := S.grow hb; clear hb) | (refine g_move ?_; refine st_move rfl ?_) | (refine g_assign ?_; refine st_assign rfl ?_) | (refine g_un ?_; refine st_val rfl (r_not rfl) ?_) | (refine g_callV ?_; (refine st_callV rfl (r_call0 rfl) (sane_spec) ?_; intro w hb; replace S := S.grow hb; clear hb)) | (refine gj_move ?_; refine jq_val rfl (fun w' hJ => ⟨rfl⟩) ?_) | (refine gj_assign ?_; refine jq_val rfl (fun w' hJ => ⟨rfl⟩) ?_) | (refine gj_c_min ?_; refine jq_val rfl (fun w' hJ => r_min2 rfl rfl) ?_) | (refine gj_c_len ?_; refine jq_val rfl (fun w' hJ => r_lenSlice rfl) ?_))
  refine jq_val rfl (fun w' hJ => r_sliceHi (hrr.mono hJ.below) rfl rfl (by omega) (by omega)) ?_
  repeat' (first | refine jq_nil ?_ | (refine gj_move ?_; refine jq_val rfl (fun w' hJ => ⟨rfl⟩) ?_) | (refine gj_assign ?_; refine jq_val rfl (fun w' hJ => ⟨rfl⟩) ?_))
  refine wj_callR rfl (r_call1 rfl rfl) (made_run (hrx.mono S.below) hx hxl) ?_
  rintro g1 w hb hrow; replace S := S.new hb hrow; clear hb hrow
  refine ⟨S.keep [false], wj_nil ?_⟩
  obtain ⟨g0, hg0⟩ : ∃ z, sliceV (Value.slice Ar raw.length cr) 0 (min (raw.length : Int) 13).toNat fGGrant.ty.sz = z := ⟨_, rfl⟩
  have hR0 := Rd.cutHi (D := fGGrant) hrr (min (raw.length : Int) 13).toNat (by omega)
  rw [show raw.take (min (raw.length : Int) 13).toNat = raw.take 13 from take_min raw 13] at hR0
  rw [hg0]
  replace hR0 : Rd fGGrant.ty w0 g0 (raw.take 13) := by rw [← hg0]; exact hR0
  obtain ⟨A0, c0, hz⟩ := hR0.len; subst hz
  obtain ⟨A1, c1, hz⟩ := (S.rdRow (D := fGGrant) (i := 0) rfl).len; subst hz
  skip
  refine st_valE rfl (r_litF (D := fSh) [((A0, (raw.take 13).length, c0) : SH), (A1, (madeG xs).length, c1)] shV S rfl rfl (fun _ => rfl) rfl (by decide) (by decide)) ?_
  rintro _ w ⟨bl, rfl, -, -, S'⟩; replace S := S'; clear S'
  repeat' (first | refine WP_seq ?_ | refine wl_nil ?_ | refine then_normal ?_ | (refine WP_drawJ (fun w' => St w0 w' []) [0,1,2,3,4,5] [6] [7,8] (by kernel_rfl) (by decide) (by decide +kernel) (fun w' hb => (S.grow hb).keep [false, false]) ?_; intro w hb; replace S := S.grow hb; clear hb) | (refine g_assign ?_; refine st_assign rfl ?_) | (refine gj_move ?_; refine jq_val rfl (fun w' hJ => ⟨rfl⟩) ?_) | (refine gj_assign ?_; refine jq_val rfl (fun w' hJ => ⟨rfl⟩) ?_) | (refine gj_c_min ?_; refine jq_val rfl (fun w' hJ => r_min2 rfl rfl) ?_) | (refine gj_c_len ?_; refine jq_val rfl (fun w' hJ => r_lenSlice rfl) ?_))
  refine jq_val rfl (fun w' hJ => r_sliceHi (hrs.mono hJ.below) rfl rfl (by omega) (by omega)) ?_
  repeat' (first | refine jq_nil ?_ | (refine gj_move ?_; refine jq_val rfl (fun w' hJ => ⟨rfl⟩) ?_) | (refine gj_assign ?_; refine jq_val rfl (fun w' hJ => ⟨rfl⟩) ?_))
  refine wj_callR rfl (r_call1 rfl rfl) (madeUses_run (hry.mono S.below) hy hyl) ?_
  rintro u1 w hb hrow; replace S := S.new hb hrow; clear hb hrow
  refine ⟨S.keep [false, false, false], wj_nil ?_⟩
  obtain ⟨u0, hu0⟩ : ∃ z, sliceV (Value.slice As some_.length cs) 0 (min (some_.length : Int) 11).toNat fGUse.ty.sz = z := ⟨_, rfl⟩
  have hT0 := Rd.cutHi (D := fGUse) hrs (min (some_.length : Int) 11).toNat (by omega)
  rw [show some_.take (min (some_.length : Int) 11).toNat = some_.take 11 from take_min some_ 11] at hT0
  rw [hu0]
  replace hT0 : Rd fGUse.ty w0 u0 (some_.take 11) := by rw [← hu0]; exact hT0
  obtain ⟨B0, d0, hz⟩ := hT0.len; subst hz
  obtain ⟨B1, d1, hz⟩ := (S.rdRow (D := fGUse) (i := 2) rfl).len; subst hz
  skip
  refine st_valE rfl (r_litF (D := fSh) [((B0, (some_.take 11).length, d0) : SH), (B1, (madeU ys).length, d1)] shV S rfl rfl (fun _ => rfl) rfl (by decide) (by decide)) ?_
  rintro _ w ⟨bl2, rfl, -, -, S'⟩; replace S := S'; clear S'
  repeat' (first | refine WP_seq ?_ | refine WP_region ?_ | refine wl_nil ?_ | refine then_normal ?_ | (refine g_move ?_; refine st_move rfl ?_) | (refine g_assign ?_; refine st_assign rfl ?_) | (refine g_c_min ?_; refine st_val rfl (r_min2 rfl rfl) ?_) | (refine g_c_len ?_; refine st_val rfl (r_lenSlice rfl) ?_))
  refine st_val rfl (r_sliceHi (hra.mono S.below) rfl rfl (by omega) (by omega)) ?_
  obtain ⟨v4, hv4⟩ : ∃ z, sliceV (Value.slice Aa asg.length ca) 0 (min (asg.length : Int) 11).toNat (fInt .i64).ty.sz = z := ⟨_, rfl⟩
  have hA0 := Rd.cutHi (D := fInt .i64) hra (min (asg.length : Int) 11).toNat (by omega)
  rw [show asg.take (min (asg.length : Int) 11).toNat = asg.take 11 from take_min asg 11] at hA0
  rw [hv4]
  replace hA0 : Rd (fInt .i64).ty w0 v4 (asg.take 11) := by rw [← hv4]; exact hA0
  obtain ⟨ks, hks⟩ : ∃ z, asg.take 11 = z := ⟨_, rfl⟩
  rw [hks] at hA0
  have hkl : ks.length ≤ 11 := by rw [← hks, List.length_take]; omega
  have hkr : ∀ k ∈ ks, -9223372036854775808 ≤ k ∧ k ≤ 9223372036854775807 := fun k hk => by rw [← hks] at hk; exact ha k (List.mem_of_mem_take hk)
  repeat' (first | refine WP_seq ?_ | refine WP_region ?_ | refine wl_nil ?_ | refine then_normal ?_ | refine WP_block ?_ | (refine g_assign ?_; refine st_assign rfl ?_))
  obtain ⟨vg, hvg⟩ : ∃ z : Value, Value.slice (some ⟨bl, 0, none⟩) 2 2 = z := ⟨_, rfl⟩
  obtain ⟨vh, hvh⟩ : ∃ z : Value, Value.slice (some ⟨bl2, 0, none⟩) 2 2 = z := ⟨_, rfl⟩
  obtain ⟨LG, hLG⟩ : ∃ z : List SH, [((A0, (raw.take 13).length, c0) : SH), (A1, (madeG xs).length, c1)] = z := ⟨_, rfl⟩
  obtain ⟨LU, hLU⟩ : ∃ z : List SH, [((B0, (some_.take 11).length, d0) : SH), (B1, (madeU ys).length, d1)] = z := ⟨_, rfl⟩
  obtain ⟨OB, hOB⟩ : ∃ z : List Ob, [rowOb fGGrant 52 (.slice A1 (madeG xs).length c1) (madeG xs), rowOb fSh 22 (.slice (some ⟨bl, 0, none⟩) 2 2) LG, rowOb fGUse 46 (.slice B1 (madeU ys).length d1) (madeU ys), rowOb fSh 23 (.slice (some ⟨bl2, 0, none⟩) 2 2) LU] = z := ⟨_, rfl⟩
  have S1 : St w0 w OB := by rw [← hOB, ← hLG, ← hLU]; exact S
  have hg : ∀ i : Nat, i < 2 → ∃ (A : Option Addr) (c : Nat) (l : List GGrant), nth LG (i : Int) = (A, l.length, c) ∧ l.length ≤ 13 ∧ ∀ w, St w0 w OB → Rd fGGrant.ty w (.slice A l.length c) l := by
    intro i hi
    by_cases e : i = 0
    · subst e
      refine ⟨A0, c0, raw.take 13, by rw [← hLG]; rfl, by rw [List.length_take]; omega, fun w S => hR0.mono S.below⟩
    · have : i = 1 := by omega
      subst this
      refine ⟨A1, c1, madeG xs, by rw [← hLG]; rfl, by omega, fun w S => ?_⟩
      rw [← hOB] at S
      exact S.rdRow (D := fGGrant) (i := 0) rfl
  have hu : ∀ i : Nat, i < 2 → ∃ (A : Option Addr) (c : Nat) (l : List GUse), nth LU (i : Int) = (A, l.length, c) ∧ l.length ≤ 11 ∧ ∀ w, St w0 w OB → Rd fGUse.ty w (.slice A l.length c) l := by
    intro i hi
    by_cases e : i = 0
    · subst e
      refine ⟨B0, d0, some_.take 11, by rw [← hLU]; rfl, by rw [List.length_take]; omega, fun w S => hT0.mono S.below⟩
    · have : i = 1 := by omega
      subst this
      refine ⟨B1, d1, madeU ys, by rw [← hLU]; rfl, by omega, fun w S => ?_⟩
      rw [← hOB] at S
      exact S.rdRow (D := fGUse) (i := 2) rfl
  have hrG : ∀ w, St w0 w OB → Rd fSh.ty w vg LG := fun w S => by
    rw [← hOB] at S; rw [← hvg]
    exact S.rdRow (D := fSh) (i := 1) rfl
  have hrU : ∀ w, St w0 w OB → Rd fSh.ty w vh LU := fun w S => by
    rw [← hOB] at S; rw [← hvh]
    exact S.rdRow (D := fSh) (i := 3) rfl
  have hLGl : LG.length = 2 := by rw [← hLG]; rfl
  have hLUl : LU.length = 2 := by rw [← hLU]; rfl
  clear S; have S := S1; clear S1
  refine WP_loop (fun kk σ w1 => ∃ (i : Nat), Has σ [(4, v4), (5, .int .i64 item), (6, .int .i64 at_), (15, .bool true), (16, vg), (17, vh), (18, .int .i64 (i : Int))] ∧ St w0 w1 OB ∧ i ≤ 2 ∧ kk = 2 - i) 2 ⟨0, ⟨rfl, rfl, rfl, rfl, by rw [← hvg]; rfl, by rw [← hvh]; rfl, rfl, trivial⟩, S, by omega, by omega⟩ ?_
  clear S
  rintro kk σ w1 ⟨i, hsl2, S, hi1, rfl⟩
  refine WP_has hsl2 ?_
  by_cases hi : i < 2
  · obtain ⟨A, c, l, hl1, hl2, hR⟩ := hg i hi
    obtain ⟨B, d, us, hu1, hu2, hT⟩ := hu i hi
    have hR2 : ∀ w, St w0 w OB → Rd fGGrant.ty w (shV (nth LG (i : Int))) l := fun w S => by rw [hl1]; exact hR w S
    have hT2 : ∀ w, St w0 w OB → Rd fGUse.ty w (shV (nth LU (i : Int))) us := fun w S => by rw [hu1]; exact hT w S
    have hw1 := wdI_len0 l item at_
    have hw2 := wdI_len0 l n t
    repeat' (first | refine WP_seq ?_ | refine WP_region ?_ | refine wl_nil ?_ | refine then_normal ?_ | (refine g_move ?_; refine st_move rfl ?_) | (refine g_b_lss ?_; refine st_val rfl (r_lss rfl rfl) ?_))
    refine WP_cond rfl (fun _ => ?_) (fun h => absurd (of_decide_eq_false h) (by omega))
    repeat' (first | refine WP_seq ?_ | refine WP_region ?_ | refine wl_nil ?_ | refine then_normal ?_ | refine WP_skip ?_ | refine WP_block ?_ | refine WP_draw (by kernel_rfl) (by kernel_rfl) ?_ | (refine ql_nil ?_; intro w hb; replace S := S.grow hb; clear hb) | (refine g_move ?_; refine st_move rfl ?_) | (refine g_assign ?_; refine st_assign rfl ?_) | (refine g_indexAddr ?_; (refine st_val rfl (r_indexAddr (hrG _ S) rfl rfl ?_ ?_) ?_; (first | omega | (simp <;> omega)); (first | omega | (simp <;> omega)))) | (refine g_load ?_; (refine st_val rfl (r_loadElem1 (hrG _ S) rfl ?_ ?_ rfl) ?_; (first | omega | (simp <;> omega)); (first | omega | (simp <;> omega)))) | (refine gq_move ?_; refine q_move rfl ?_) | (refine gq_pick ?_; refine q_pickF rfl rfl ?_) | (refine gq_b_neq ?_; refine q_val rfl (fun w' hb => r_neqB rfl rfl) ?_) | (refine gq_indexAddr ?_; (refine q_val rfl (fun w' hb => r_indexAddr (hrU _ (S.grow hb)) rfl rfl ?_ ?_) ?_; (first | omega | (simp <;> omega)); (first | omega | (simp <;> omega)))) | (refine gq_load ?_; (refine q_val rfl (fun w' hb => r_loadElem1 (hrU _ (S.grow hb)) rfl ?_ ?_ rfl) ?_; (first | omega | (simp <;> omega)); (first | omega | (simp <;> omega)))) | (refine gq_callV ?_; first | refine q_callV rfl (fun w' hb => r_call1 rfl rfl) (fun w' hb => valid_is (hR2 _ (S.grow hb)) (by omega) rfl) ?_ | refine q_callV rfl (fun w' hb => r_call1 rfl rfl) (fun w' hb => validR_is (hR2 _ (S.grow hb)) (by omega) rfl) ?_ | refine q_callV rfl (fun w' hb => r_call1 rfl rfl) (fun w' hb => validUses_is (hT2 _ (S.grow hb)) (by omega) rfl) ?_ | refine q_callV rfl (fun w' hb => r_call1 rfl rfl) (fun w' hb => validUsesR_is (hT2 _ (S.grow hb)) (by omega) rfl) ?_) | (refine ql_split rfl rfl (fun h => ?_) (fun h => ?_) <;> (fail_if_success (have hh : true = true := h)) <;> (fail_if_success (have hh : false = false := h)) <;> (try simp only [decide_eq_true_eq, decide_eq_false_iff_not, Bool.not_eq_true', Bool.not_eq_false', Int.not_lt, Int.not_le] at h) <;> (try (exfalso; omega)) <;> (try (exfalso; exact absurd trivial h; done))) | (refine WP_cond rfl (fun h => ?_) (fun h => ?_) <;> (fail_if_success (have hh : true = true := h)) <;> (fail_if_success (have hh : false = false := h)) <;> (try simp only [decide_eq_true_eq, decide_eq_false_iff_not, Bool.not_eq_true', Bool.not_eq_false', Int.not_lt, Int.not_le] at h) <;> (try (exfalso; omega)) <;> (try (exfalso; exact absurd trivial h; done))))
    rw [hl1]
    refine st_callR rfl (r_call3 rfl rfl rfl rfl) (withdraw_run (hR _ S) (by omega)) ?_; rintro v1 w hb hrow; replace S := (S.new hb hrow).front; clear hb hrow
    repeat' ((refine g_move ?_; refine st_move rfl ?_))
    refine st_callR rfl (r_call3 rfl rfl rfl rfl) (withdrawR_run (hR _ S.tail) (by omega)) ?_; rintro v2 w hb hrow; replace S := (S.new hb hrow).front; clear hb hrow
    repeat' (first | (refine g_move ?_; refine st_move rfl ?_) | (refine g_un ?_; refine st_val rfl (r_not rfl) ?_) | (refine g_callV ?_; first | (refine st_callV rfl (r_call2 rfl rfl rfl) (same_is0 (S.rdRow (D := fGGrant) (i := 1) rfl) (S.rdRow (D := fGGrant) (i := 0) rfl) (by omega) (by omega) (decide_eq_true rfl)) ?_; intro w hb; replace S := S.grow hb; clear hb) | (refine st_callV rfl (r_call2 rfl rfl rfl) (pick_is hn (by omega) (by omega) (by omega)) ?_; intro w hb; replace S := S.grow hb; clear hb) | (refine st_callV rfl (r_call2 rfl rfl rfl) (pick_is ht (by omega) (by omega) (by omega)) ?_; intro w hb; replace S := S.grow hb; clear hb)))
    refine st_callR rfl (r_call3 rfl rfl rfl rfl) (withdraw_run (hR _ S.tail.tail) (by omega)) ?_; rintro v3 w hb hrow; replace S := (S.new hb hrow).front; clear hb hrow
    repeat' (first | (refine g_move ?_; refine st_move rfl ?_) | (refine g_callV ?_; first | (refine st_callV rfl (r_call2 rfl rfl rfl) (pick_is hn (by omega) (by omega) (by omega)) ?_; intro w hb; replace S := S.grow hb; clear hb) | (refine st_callV rfl (r_call2 rfl rfl rfl) (pick_is ht (by omega) (by omega) (by omega)) ?_; intro w hb; replace S := S.grow hb; clear hb)))
    refine st_callR rfl (r_call3 rfl rfl rfl rfl) (withdrawR_run (hR _ S.tail.tail.tail) (by omega)) ?_; rintro v4' w hb hrow; replace S := (S.new hb hrow).front; clear hb hrow
    repeat' (first | refine WP_seq ?_ | refine WP_region ?_ | refine wl_nil ?_ | refine then_normal ?_ | refine WP_skip ?_ | refine WP_block ?_ | refine WP_condF rfl ?_ | (refine g_assign ?_; refine st_assign rfl ?_) | (refine g_pick ?_; refine st_pickF rfl rfl ?_) | (refine g_un ?_; refine st_val rfl (r_not rfl) ?_) | (refine g_callV ?_; (refine st_callV rfl (r_call2 rfl rfl rfl) (same_is0 (S.rdRow (D := fGGrant) (i := 1) rfl) (S.rdRow (D := fGGrant) (i := 0) rfl) (by omega) (by omega) (decide_eq_true rfl)) ?_; intro w hb; replace S := S.grow hb; clear hb)))
    have hS := S.tail.tail.tail.tail
    clear S; have S := hS; clear hS
    refine WP_loop (fun kk σ w1 => ∃ (k : Nat), Has σ [(4, v4), (5, .int .i64 item), (6, .int .i64 at_), (15, .bool true), (16, vg), (17, vh), (18, .int .i64 (i : Int)), (19, .slice A l.length c), (20, .int .i64 (k : Int))] ∧ St w0 w1 OB ∧ k ≤ 2 ∧ kk = 2 - k) 2 ⟨0, ⟨rfl, rfl, rfl, rfl, rfl, rfl, rfl, rfl, rfl, trivial⟩, S, by omega, by omega⟩ ?_
    clear S hT hT2 hu1 hu2 us
    rintro kk σ w1 ⟨k, hsl3, S, hk1, rfl⟩
    refine WP_has hsl3 ?_
    by_cases hk : k < 2
    · obtain ⟨B, d, us, hu1, hu2, hT⟩ := hu k hk
      have ra := asnI_rng l us
      have rl := lackI_len l us
      have r1 := leftI_len (l := l) us ks
      have r2 := leftI_len (l := l) us (asnI l us).1
      repeat' (first | refine WP_seq ?_ | refine WP_region ?_ | refine wl_nil ?_ | refine then_normal ?_ | (refine g_move ?_; refine st_move rfl ?_) | (refine g_b_lss ?_; refine st_val rfl (r_lss rfl rfl) ?_))
      refine WP_cond rfl (fun _ => ?_) (fun h => absurd (of_decide_eq_false h) (by omega))
      repeat' (first | refine WP_seq ?_ | refine WP_region ?_ | refine wl_nil ?_ | refine then_normal ?_ | refine WP_skip ?_ | refine WP_block ?_ | (refine g_move ?_; refine st_move rfl ?_) | (refine g_assign ?_; refine st_assign rfl ?_) | (refine g_indexAddr ?_; (refine st_val rfl (r_indexAddr (hrU _ S) rfl rfl ?_ ?_) ?_; (first | omega | (simp <;> omega)); (first | omega | (simp <;> omega)))) | (refine g_load ?_; (refine st_val rfl (r_loadElem1 (hrU _ S) rfl ?_ ?_ rfl) ?_; (first | omega | (simp <;> omega)); (first | omega | (simp <;> omega)))))
      rw [hu1]
      refine st_callR rfl (r_call2 rfl rfl rfl) (assign_run (hR _ S) (hT _ S) (by omega) (by omega)) ?_; rintro v w hb ⟨va1, rfl, hrow⟩; replace S := (S.new hb hrow).front; clear hb hrow
      repeat' (first | refine WP_seq ?_ | refine WP_region ?_ | refine wl_nil ?_ | refine then_normal ?_ | (refine g_move ?_; refine st_move rfl ?_) | (refine g_assign ?_; refine st_assign rfl ?_) | (refine g_extract ?_; refine st_val rfl (r_extract rfl rfl) ?_))
      refine st_callR rfl (r_call2 rfl rfl rfl) (assignR_run (hR _ S.tail) (hT _ S.tail) (by omega) (by omega)) ?_; rintro v w hb ⟨va2, rfl, hrow⟩; replace S := (S.new hb hrow).front; clear hb hrow
      repeat' (first | refine WP_seq ?_ | refine WP_region ?_ | refine wl_nil ?_ | refine then_normal ?_ | (refine g_move ?_; refine st_move rfl ?_) | (refine g_assign ?_; refine st_assign rfl ?_) | (refine g_extract ?_; refine st_val rfl (r_extract rfl rfl) ?_))
      refine st_callR rfl (r_call2 rfl rfl rfl) (lack_run (hR _ S.tail.tail) (hT _ S.tail.tail) (by omega) (by omega)) ?_; rintro v w hb ⟨va3, rfl, hrow⟩; replace S := (S.new hb hrow).front; clear hb hrow
      repeat' (first | refine WP_seq ?_ | refine WP_region ?_ | refine wl_nil ?_ | refine then_normal ?_ | (refine g_move ?_; refine st_move rfl ?_) | (refine g_assign ?_; refine st_assign rfl ?_) | (refine g_extract ?_; refine st_val rfl (r_extract rfl rfl) ?_))
      refine st_callR rfl (r_call2 rfl rfl rfl) (lackR_run (hR _ S.tail.tail.tail) (hT _ S.tail.tail.tail) (by omega) (by omega)) ?_; rintro v w hb ⟨va4, rfl, hrow⟩; replace S := (S.new hb hrow).front; clear hb hrow
      repeat' (first | refine WP_seq ?_ | refine WP_region ?_ | refine wl_nil ?_ | refine then_normal ?_ | refine WP_skip ?_ | refine WP_condF rfl ?_ | (refine g_move ?_; refine st_move rfl ?_) | (refine g_assign ?_; refine st_assign rfl ?_) | (refine g_pick ?_; refine st_pickF rfl rfl ?_) | (refine g_b_neq ?_; first | refine st_val rfl (r_neq rfl rfl) ?_ | refine st_val rfl (r_neqB rfl rfl) ?_) | (refine g_un ?_; refine st_val rfl (r_not rfl) ?_) | (refine g_extract ?_; refine st_val rfl (r_extract rfl rfl) ?_) | (refine g_callV ?_; first | (refine st_callV rfl (r_call2 rfl rfl rfl) (ints_is (S.rdRow (D := fInt .i64) (i := 3) rfl) (S.rdRow (D := fInt .i64) (i := 2) rfl) (by omega) (by omega) (decide_eq_true rfl)) ?_; intro w hb; replace S := S.grow hb; clear hb) | (refine st_callV rfl (r_call2 rfl rfl rfl) (ints_is (S.rdRow (D := fInt .i64) (i := 1) rfl) (S.rdRow (D := fInt .i64) (i := 0) rfl) (by omega) (by omega) (decide_eq_true rfl)) ?_; intro w hb; replace S := S.grow hb; clear hb)) | (refine wl_split rfl rfl (fun h => ?_) (fun h => ?_) <;> (fail_if_success (have hh : true = true := h)) <;> (fail_if_success (have hh : false = false := h)) <;> (try simp only [decide_eq_true_eq, decide_eq_false_iff_not, Bool.not_eq_true', Bool.not_eq_false', Int.not_lt, Int.not_le] at h) <;> (try (exfalso; omega)) <;> (try (exfalso; exact absurd trivial h; done))))
      refine st_callR rfl (r_call3 rfl rfl rfl rfl) (left_run (hR _ S.tail.tail.tail.tail) (hT _ S.tail.tail.tail.tail) (hA0.mono S.below) (by omega) (by omega) (by omega) hkr) ?_; rintro vb1 w hb hrow; replace S := (S.new hb hrow).front; clear hb hrow
      repeat' ((refine g_move ?_; refine st_move rfl ?_))
      refine st_callR rfl (r_call3 rfl rfl rfl rfl) (leftR_run (hR _ S.tail.tail.tail.tail.tail) (hT _ S.tail.tail.tail.tail.tail) (hA0.mono S.below) (by omega) (by omega) (by omega) hkr) ?_; rintro vb2 w hb hrow; replace S := (S.new hb hrow).front; clear hb hrow
      repeat' (first | (refine g_move ?_; refine st_move rfl ?_) | (refine g_un ?_; refine st_val rfl (r_not rfl) ?_) | (refine g_callV ?_; (refine st_callV rfl (r_call2 rfl rfl rfl) (ints_is (S.rdRow (D := fInt .i64) (i := 1) rfl) (S.rdRow (D := fInt .i64) (i := 0) rfl) (by omega) (by omega) (decide_eq_true rfl)) ?_; intro w hb; replace S := S.grow hb; clear hb)))
      refine st_callR rfl (r_call3 rfl rfl rfl rfl) (left_run (hR _ S.tail.tail.tail.tail.tail.tail) (hT _ S.tail.tail.tail.tail.tail.tail) (S.rdRow (D := fInt .i64) (i := 4) rfl) (by omega) (by omega) (by omega) ra.2) ?_; rintro vb3 w hb hrow; replace S := (S.new hb hrow).front; clear hb hrow
      repeat' ((refine g_move ?_; refine st_move rfl ?_))
      refine st_callR rfl (r_call3 rfl rfl rfl rfl) (leftR_run (hR _ S.tail.tail.tail.tail.tail.tail.tail) (hT _ S.tail.tail.tail.tail.tail.tail.tail) (S.rdRow (D := fInt .i64) (i := 5) rfl) (by omega) (by omega) (by omega) ra.2) ?_; rintro vb4 w hb hrow; replace S := (S.new hb hrow).front; clear hb hrow
      repeat' (first | refine WP_seq ?_ | refine WP_region ?_ | refine wl_nil ?_ | refine then_normal ?_ | refine WP_skip ?_ | refine WP_block ?_ | refine WP_condF rfl ?_ | (refine g_assign ?_; refine st_assign rfl ?_) | (refine g_pick ?_; refine st_pickF rfl rfl ?_) | (refine g_un ?_; refine st_val rfl (r_not rfl) ?_) | (refine g_callV ?_; (refine st_callV rfl (r_call2 rfl rfl rfl) (ints_is (S.rdRow (D := fInt .i64) (i := 1) rfl) (S.rdRow (D := fInt .i64) (i := 0) rfl) (by omega) (by omega) (decide_eq_true rfl)) ?_; intro w hb; replace S := S.grow hb; clear hb)))
      have hS := S.tail.tail.tail.tail.tail.tail.tail.tail
      clear S; have S := hS; clear hS
      refine WP_loop (fun kk σ w1 => ∃ (j : Nat), Has σ [(4, v4), (5, .int .i64 item), (6, .int .i64 at_), (15, .bool true), (16, vg), (17, vh), (18, .int .i64 (i : Int)), (19, .slice A l.length c), (20, .int .i64 (k : Int)), (21, .slice B us.length d), (30, .int .i64 (j : Int))] ∧ St w0 w1 OB ∧ j ≤ us.length ∧ kk = us.length - j) us.length ⟨0, ⟨rfl, rfl, rfl, rfl, rfl, rfl, rfl, rfl, rfl, rfl, rfl, trivial⟩, S, by omega, by omega⟩ ?_
      clear S
      rintro kk σ w1 ⟨j, hsl4, S, hj1, rfl⟩
      refine WP_has hsl4 ?_
      by_cases hj : j < us.length
      · have rp := perI_len l (nth us (j : Int))
        repeat' (first | refine WP_seq ?_ | refine WP_region ?_ | refine wl_nil ?_ | refine then_normal ?_ | (refine g_move ?_; refine st_move rfl ?_) | (refine g_b_lss ?_; refine st_val rfl (r_lss rfl rfl) ?_) | (refine g_c_len ?_; refine st_val rfl (r_lenSlice rfl) ?_))
        refine WP_cond rfl (fun _ => ?_) (fun h => absurd (of_decide_eq_false h) (by omega))
        repeat' (first | refine WP_seq ?_ | refine then_normal ?_ | refine WP_skip ?_ | refine WP_block ?_ | (refine WP_drawJ (fun w' => St w0 w' (OB)) [0,1,2,3,4,6,7,8,9,10] [5,11] [12,13] (by kernel_rfl) (by decide) (by decide +kernel) (fun w' hb => (S.grow hb)) ?_; intro w hb; replace S := S.grow hb; clear hb) | refine jq_nil ?_ | (refine gj_move ?_; refine jq_val rfl (fun w' hJ => ⟨rfl⟩) ?_) | (refine gj_assign ?_; refine jq_val rfl (fun w' hJ => ⟨rfl⟩) ?_) | (refine gj_indexAddr ?_; (refine jq_val rfl (fun w' hJ => r_indexAddr (hT _ hJ) rfl rfl ?_ ?_) ?_; (first | omega | (simp <;> omega)); (first | omega | (simp <;> omega)))) | (refine gj_load ?_; (refine jq_val rfl (fun w' hJ => r_loadElem (hT _ hJ) rfl ?_ ?_) ?_; (first | omega | (simp <;> omega)); (first | omega | (simp <;> omega)))))
        refine wj_callR rfl (r_call2 rfl rfl rfl) (permits_run (u := nth us (j : Int)) (hR _ S) (by omega)) ?_
        rintro vp1 w hb hrow; replace S := (S.new hb hrow).front; clear hb hrow
        refine ⟨S.tail, ?_⟩
        refine wj_callR rfl (r_call2 rfl rfl rfl) (permitsR_run (u := nth us (j : Int)) (hR _ S.tail) (by omega)) ?_
        rintro vp2 w hb hrow; replace S := (S.new hb hrow).front; clear hb hrow
        refine ⟨S.tail.tail, wj_nil ?_⟩
        repeat' (first | refine WP_region ?_ | refine wl_nil ?_ | refine then_normal ?_ | refine inB_normal ?_ | refine WP_skip ?_ | refine WP_condF rfl ?_ | (refine g_move ?_; refine st_move rfl ?_) | (refine g_assign ?_; refine st_assign rfl ?_) | (refine g_b_add ?_; (refine st_val rfl (r_addN rfl rfl ?_ ?_) ?_; (first | omega | (simp <;> omega)); (first | omega | (simp <;> omega)))) | (refine g_un ?_; refine st_val rfl (r_not rfl) ?_) | (refine g_callV ?_; (refine st_callV rfl (r_call2 rfl rfl rfl) (ints_is (S.rdRow (D := fInt .i64) (i := 1) rfl) (S.rdRow (D := fInt .i64) (i := 0) rfl) (by omega) (by omega) (decide_eq_true rfl)) ?_; intro w hb; replace S := S.grow hb; clear hb)))
        refine nextI.mk ⟨_, ?_, j + 1, ⟨rfl, rfl, rfl, rfl, rfl, rfl, rfl, rfl, rfl, rfl, rfl, trivial⟩, S.tail.tail, by omega, rfl⟩
        omega
      · repeat' (first | refine WP_seq ?_ | refine WP_region ?_ | refine wl_nil ?_ | refine then_normal ?_ | refine inB_normal ?_ | refine then_exit ?_ | refine inB_here ?_ | refine WP_exit ?_ | (refine g_move ?_; refine st_move rfl ?_) | (refine g_assign ?_; refine st_assign rfl ?_) | (refine g_b_add ?_; (refine st_val rfl (r_addN rfl rfl ?_ ?_) ?_; (first | omega | (simp <;> omega)); (first | omega | (simp <;> omega)))) | (refine g_b_lss ?_; refine st_val rfl (r_lss rfl rfl) ?_) | (refine g_c_len ?_; refine st_val rfl (r_lenSlice rfl) ?_) | (refine WP_cond rfl (fun h => ?_) (fun h => ?_) <;> (fail_if_success (have hh : true = true := h)) <;> (fail_if_success (have hh : false = false := h)) <;> (try simp only [decide_eq_true_eq, decide_eq_false_iff_not, Bool.not_eq_true', Bool.not_eq_false', Int.not_lt, Int.not_le] at h) <;> (try (exfalso; omega))))
        refine nextI.mk ⟨_, ?_, k + 1, ⟨rfl, rfl, rfl, rfl, rfl, rfl, rfl, rfl, rfl, trivial⟩, S, by omega, rfl⟩
        omega
    · repeat' (first | refine WP_seq ?_ | refine WP_region ?_ | refine wl_nil ?_ | refine then_normal ?_ | refine inB_normal ?_ | refine then_exit ?_ | refine inB_here ?_ | refine WP_exit ?_ | (refine g_move ?_; refine st_move rfl ?_) | (refine g_assign ?_; refine st_assign rfl ?_) | (refine g_b_add ?_; (refine st_val rfl (r_addN rfl rfl ?_ ?_) ?_; (first | omega | (simp <;> omega)); (first | omega | (simp <;> omega)))) | (refine g_b_lss ?_; refine st_val rfl (r_lss rfl rfl) ?_) | (refine WP_cond rfl (fun h => ?_) (fun h => ?_) <;> (fail_if_success (have hh : true = true := h)) <;> (fail_if_success (have hh : false = false := h)) <;> (try simp only [decide_eq_true_eq, decide_eq_false_iff_not, Bool.not_eq_true', Bool.not_eq_false', Int.not_lt, Int.not_le] at h) <;> (try (exfalso; omega))))
      refine nextI.mk ⟨_, ?_, i + 1, ⟨rfl, rfl, rfl, rfl, rfl, rfl, rfl, trivial⟩, S, by omega, rfl⟩
      omega
  · repeat' (first | refine WP_seq ?_ | refine WP_region ?_ | refine wl_nil ?_ | refine then_normal ?_ | refine then_exit ?_ | refine inB_here ?_ | refine WP_ret ?_ | refine WP_exit ?_ | (refine g_move ?_; refine st_move rfl ?_) | (refine g_assign ?_; refine st_assign rfl ?_) | (refine g_b_lss ?_; refine st_val rfl (r_lss rfl rfl) ?_) | (refine WP_cond rfl (fun h => ?_) (fun h => ?_) <;> (fail_if_success (have hh : true = true := h)) <;> (fail_if_success (have hh : false = false := h)) <;> (try simp only [decide_eq_true_eq, decide_eq_false_iff_not, Bool.not_eq_true', Bool.not_eq_false', Int.not_lt, Int.not_le] at h) <;> (try (exfalso; omega))))
    exact end1 rfl rfl ⟨rfl, S.below⟩
end Go.Proofs.Ytfdjnadopniaeaa
