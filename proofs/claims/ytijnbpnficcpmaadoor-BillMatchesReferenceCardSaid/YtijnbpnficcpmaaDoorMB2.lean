/- Merged texts: BP, BQ, BS, QA, QB, QC, QD, BT, QE, LD, LF, QG, QH, QI, QF, QJ, BU, LB, QK, QL. -/
import Derived.Test.YtijnbpnficcpmaaDoorMB1
import Derived.Test.YtijnbpnficcpmaaDoorMG2
import Derived.Test.YtijnbpnficcpmaaDoorMC2
set_option linter.unusedVariables false
set_option linter.unusedSimpArgs false
namespace Go.Proofs.YtijnbpnficcpmaaDoor
open Go Go.Gx Go.RowKit

theorem r_pickF {P : Program} {ρ : Operand → Value} {w : World} {d : Option Tmp} {ty : TypeId} {pos : String} {af : Array Edge} {g : Option (Nat × Bool)} {c a b : Operand} (hc : ρ c = .bool false) : Go.Gx.Runs P ρ ⟨d, .pick c a b, ty, pos, af, g⟩ w (.ok (.value (ρ b)) w) := ⟨by simp [execOp, hc, asBool, pure, bind, Sem.bind]⟩
theorem kq_val {P : Program} {n : Nat} {ops : Array Oper} {Q : Post} {J : World → Prop} {o : Oper} {K : (Nat → Value) → World → Prop} {σ : Nat → Value} {w : World} {v : Value} (hw : Z3w o ops n σ = true) (hrun : Go.Gx.Runs P (opv (cut n σ)) o w (.ok (.value v) w)) (hJ : J w) (k : K (updO σ o.dst v) w) : kq P n ops Q J o K σ w :=
 Z2i (R := fun v' w' => v' = v ∧ w' = w) hw ⟨v, w, hrun, rfl, rfl⟩ (by rintro _ _ ⟨rfl, rfl⟩; exact ⟨hJ, k⟩)
theorem Zbh {L : List GPosting} {id : Int} : -1 ≤ Z3y L id ∧ Z3y L id < L.length := by
 unfold Z3y
 rcases @Zbg L id L.length with ⟨h, _⟩ | ⟨k, hk, h, _⟩ <;> rw [h] <;> omega
abbrev ledB (bl : Nat) (acc : Int) (v : Value) (cl : Int) (x : Bool) : Ob := .var bl 103 (blC acc v cl x)
theorem st_fin {w0 w2 : World} {a b c x : Ob} {ex : List Ob} (S : St w0 w2 (a :: b :: c :: (ex ++ [x]))) : St w0 w2 (a :: x :: ex) :=
 (S.perm ((List.perm_middle (a := a) (l₁ := [b, c]) (l₂ := ex ++ [x])).symm.trans (List.Perm.cons b (List.Perm.cons c (List.Perm.cons a (List.perm_append_singleton x ex)))))).tail.tail
def SetR (w0 : World) (bl : Nat) (acc cl : Int) (L : List GPosting) (c : GContract) (due day : Int) (ex : List Ob) (w' : World) : Prop :=
 match Z39 acc cl L c due day with
 | some L' => ∃ v', St w0 w' (ledB bl acc v' cl false :: rowP v' L' :: ex)
 | none => St w0 w' (ledB bl 0 (.slice none 0 0) 0 true :: ex)
set_option maxRecDepth 20000 in
set_option maxHeartbeats 1000000 in
theorem Zib {bl : Nat} {acc cl due day : Int} {L : List GPosting} {c : GContract} {v : Value} {ex : List Ob} {w0 w : World} (S : St w0 w (ledB bl acc v cl false :: rowP v L :: ex)) (hl : L.length ≤ 1000000000) (hs : 0 ≤ c.Sponsor ∧ c.Sponsor ≤ 1000000) :
  CallsW Tryd.prog 57 #[.pointer (some ⟨bl, 0, none⟩), .agg c.enc.toArray, .int .i64 due, .int .i64 day] w (fun _ w' => SetR w0 bl acc cl L c due day ex w') := by
 obtain ⟨A, c0, hz⟩ := (S.rdRow (D := Z0o) (i := 1) rfl).len; subst hz
 obtain ⟨k, hk⟩ : ∃ k, Z3y L c.ID = k := ⟨_, rfl⟩
 have hkr := @Zbh L c.ID
 rw [hk] at hkr
 refine CallsW.mk ?_
 refine Z0l Tryd.func57 rfl (by intro _ h; first | exact nomatch h.1 | (obtain ⟨_, h, _⟩ := h; exact nomatch h)) Tryd.ntmps57 rfl ?_
 repeat' (first | refine Z0a ?_ | refine Z02 ?_ | refine Z08 ?_ | refine Z01 ?_ | refine Z06 rfl ?_ | refine Z04 rfl ?_ | refine Z00 rfl (Z1n rfl) ?_ | refine Z00 rfl (Z09 rfl) ?_ | (first | refine Z00 rfl (Z0b (i := 1) S rfl rfl rfl) ?_ | refine Z00 rfl (Z0m (i := 1) S rfl rfl rfl rfl) ?_) | (refine Z2g ?_; refine Z0n rfl (Z2h S rfl) ?_; rintro _ w ⟨b, rfl, -, S'⟩; replace S := S'.front; clear S') | (refine Z0n rfl (Z1i S) ?_; rintro _ w ⟨b, rfl, -, S'⟩; replace S := S'.front; clear S') | (first | (refine Z05 rfl (Z03 (i := 0) S rfl rfl rfl rfl (dqq rfl) (dqq rfl)) ?_; clear S; intro w S) | (refine Z05 rfl (Z03 (i := 1) S rfl rfl rfl rfl (dqq rfl) (dqq rfl)) ?_; clear S; intro w S) | (refine Z05 rfl (Z03 (i := 2) S rfl rfl rfl rfl (dqq rfl) (dqq rfl)) ?_; clear S; intro w S) | (refine Z05 rfl (Z03 (i := 3) S rfl rfl rfl rfl (dqq rfl) (dqq rfl)) ?_; clear S; intro w S)))
 refine Z25 rfl (Z0w rfl rfl rfl) (Zia (S.var (i := 2) rfl) (S.rdRow (D := Z0o) (i := 3) rfl) hl) ?_
 rintro _ w hb rfl
 replace S := S.grow hb
 clear hb
 rw [hk]
 rename_i b5 _ _
 obtain ⟨b8, rfl⟩ : ∃ x, x = b := ⟨_, rfl⟩
 refine Z04 rfl ?_
 refine Z08 ?_
 refine Z01 ?_
 replace S : St w0 w (.var b8 27 (bkV acc (.slice A L.length c0) cl) :: .var b5 70 c.enc :: ledB bl acc (.slice A L.length c0) cl false :: rowP (.slice A L.length c0) L :: ex) := S
 refine Z2c (fun σ w1 => ∃ (e acc' cl' : Int) (A' : Option Addr) (n' c' : Nat) (M : List Ob), Has σ [(0, .pointer (some ⟨bl, 0, none⟩)), (8, .pointer (some ⟨b8, 0, none⟩)), (9, .int .i64 e)] ∧ St w0 w1 (.var b8 27 (bkV acc' (.slice A' n' c') cl') :: ledB bl acc (.slice A L.length c0) cl false :: M) ∧ ∀ w2, St w0 w2 (.var b8 27 (bkV acc' (.slice A' n' c') cl') :: ledB bl acc' (.slice A' n' c') cl' (!decide (e = 0)) :: M) → SetR w0 bl acc cl L c due day ex w2) ?_ ?_
 ·have hnil : Z39 acc cl L c due day = some L → ∀ w2, St w0 w2 (.var b8 27 (bkV acc (.slice A L.length c0) cl) :: ledB bl acc (.slice A L.length c0) cl (!decide ((0 : Int) = 0)) :: .var b5 70 c.enc :: rowP (.slice A L.length c0) L :: ex) → SetR w0 bl acc cl L c due day ex w2 := fun he w2 S2 => by
   unfold SetR; rw [he]; exact ⟨_, (S2.tail.perm (List.Perm.swap _ _ _)).tail⟩
  have hbad : Z39 acc cl L c due day = none → ∀ w2, St w0 w2 (.var b8 27 (bkV 0 (.slice none 0 0) 0) :: ledB bl 0 (.slice none 0 0) 0 (!decide ((240 : Int) = 0)) :: .var b5 70 c.enc :: rowP (.slice A L.length c0) L :: ex) → SetR w0 bl acc cl L c due day ex w2 := fun he w2 S2 => by
   unfold SetR; rw [he]; exact S2.tail.sub (.cons_cons _ (.cons _ (.cons _ (List.Sublist.refl _))))
  have hgood : ∀ (L' : List GPosting) (v' : Value), Z39 acc cl L c due day = some L' → ∀ w2, St w0 w2 (.var b8 27 (bkV acc v' cl) :: ledB bl acc v' cl (!decide ((0 : Int) = 0)) :: .var b5 70 c.enc :: rowP (.slice A L.length c0) L :: (ex ++ [rowP v' L'])) → SetR w0 bl acc cl L c due day ex w2 := fun L' v' he w2 S2 => by
   unfold SetR; rw [he]; exact ⟨_, st_fin S2.tail⟩
  by_cases h1 : 0 ≤ k
  ·by_cases h2 : (nth L k).Amount = due
   ·have he : Z39 acc cl L c due day = some L := by unfold Z39; rw [hk, if_neg (fun h => h.2 h2), if_neg (fun h => by omega)]
    repeat' (first | refine Z0a ?_ | refine Z02 ?_ | refine Z08 ?_ | refine Z01 ?_ | refine Z0h ?_ | refine Z0k ?_ | refine Z0f ?_ | refine Z18 rfl ?_ | (refine Z1c ?_; refine Z1p rfl ?_) | refine Z06 rfl ?_ | refine Z04 rfl ?_ | (first | refine Z0u rfl rfl ?_ | refine Z0t rfl rfl ?_) | refine Z00 rfl (Z33 rfl rfl) ?_ | refine Z00 rfl (Z0z rfl rfl) ?_ | refine Z00 rfl (Z2x rfl rfl) ?_ | refine Z00 rfl (Z1n rfl) ?_ | (first | refine Z00 rfl (Z09 rfl) ?_ | refine Z00 rfl (Z1g rfl) ?_) | ((refine Z00 rfl (Z07 (S.rdRow (D := Z0o) (i := 3) rfl) rfl rfl ?_ ?_) ?_; (first | omega | simp <;> omega); (first | omega | simp <;> omega))) | (first | (refine Z00 rfl (Z11 (S.rdRow (D := Z0o) (i := 3) rfl) rfl ?_ ?_ rfl) ?_; (first | omega | simp <;> omega); (first | omega | simp <;> omega)) | refine Z00 rfl (Z0b (i := 2) S rfl rfl rfl) ?_) | (refine Z13 rfl rfl (fun h => ?_) (fun h => ?_) <;> (fail_if_success first | have := ntT h | have := ntF h) <;> (try simp only [tdyB] at h) <;> (try (exfalso; omega))) | (refine Z0g rfl (fun h => ?_) (fun h => ?_) <;> (fail_if_success first | have := ntT h | have := ntF h) <;> (try simp only [tdyB] at h) <;> (try (exfalso; omega))))
    exact ⟨0, acc, cl, _, _, _, _, ⟨rfl, rfl, rfl, trivial⟩, (S.perm (List.Perm.cons _ (List.Perm.swap _ _ _))), hnil he⟩
   ·have he : Z39 acc cl L c due day = if Z38 acc cl L k day due = true then some (Z70 L k day due) else none := by unfold Z39; rw [hk, if_pos ⟨h1, h2⟩]
    repeat' (first | refine Z0a ?_ | refine Z02 ?_ | refine Z08 ?_ | refine Z01 ?_ | refine Z0f ?_ | refine Z06 rfl ?_ | refine Z04 rfl ?_ | refine Z0u rfl rfl ?_ | refine Z00 rfl (Z33 rfl rfl) ?_ | refine Z00 rfl (Z2x rfl rfl) ?_ | refine Z00 rfl (Z1n rfl) ?_ | (first | refine Z00 rfl (Z09 rfl) ?_ | refine Z00 rfl (Z1g rfl) ?_) | ((refine Z00 rfl (Z07 (S.rdRow (D := Z0o) (i := 3) rfl) rfl rfl ?_ ?_) ?_; (first | omega | simp <;> omega); (first | omega | simp <;> omega))) | (first | (refine Z00 rfl (Z11 (S.rdRow (D := Z0o) (i := 3) rfl) rfl ?_ ?_ rfl) ?_; (first | omega | simp <;> omega); (first | omega | simp <;> omega)) | refine Z00 rfl (Z0b (i := 2) S rfl rfl rfl) ?_ | refine Z00 rfl (Z0m (i := 2) S rfl rfl rfl rfl) ?_) | (refine Z13 rfl rfl (fun h => ?_) (fun h => ?_) <;> (fail_if_success first | have := ntT h | have := ntF h) <;> (try simp only [tdyB] at h) <;> (try (exfalso; omega))) | (refine Z0g rfl (fun h => ?_) (fun h => ?_) <;> (fail_if_success first | have := ntT h | have := ntF h) <;> (try simp only [tdyB] at h) <;> (try (exfalso; omega))))
    refine Z25 rfl (Z3g rfl rfl rfl rfl rfl) (disp_run (acc := acc) (cl := cl) (i := k) (day := day) (amount := due) (S.rdRow (D := Z0o) (i := 3) rfl) hl) ?_
    rintro r w hb hR
    unfold Z96 at hR
    cases hD : Z38 acc cl L k day due with
    | false =>
     rw [hD, if_neg (by simp)] at hR he
     subst hR
     replace S := S.grow hb; clear hb
     repeat' (first | refine Z06 rfl ?_ | refine Z00 rfl (Z0y rfl rfl) ?_)
     refine Z05 rfl (Z03 (i := 0) S rfl rfl rfl rfl (dqq rfl) (dqq rfl)) ?_
     clear S; intro w S
     repeat' (first | refine Z08 ?_ | refine Z01 ?_ | refine Z0h ?_ | refine Z04 rfl ?_)
     exact ⟨240, 0, 0, _, _, _, _, ⟨rfl, rfl, rfl, trivial⟩, (S.perm (List.Perm.cons _ (List.Perm.swap _ _ _))), hbad he⟩
    | true =>
     rw [hD, if_pos rfl] at hR he
     obtain ⟨v2, rfl, S'⟩ := hR
     obtain ⟨A2, c2, hz⟩ := (S'.rdRow (D := Z0o) (i := 0) rfl).len; subst hz
     replace S := S.join S'
     clear S' hb
     repeat' (first | refine Z08 ?_ | refine Z01 ?_ | refine Z0h ?_ | refine Z06 rfl ?_ | refine Z04 rfl ?_ | refine Z00 rfl (Z0y rfl rfl) ?_ | ((refine Z05 rfl (Z03 (i := 0) S rfl rfl rfl rfl (dqq rfl) (dqq rfl)) ?_; clear S; intro w S)))
     exact ⟨0, acc, cl, _, _, _, _, ⟨rfl, rfl, rfl, trivial⟩, (S.perm (List.Perm.cons _ (List.Perm.swap _ _ _))), hgood _ _ he⟩
  ·by_cases h2 : 0 < due
   ·have he : Z39 acc cl L c due day = if Z3a acc cl L (Z5t day due c) = true then some (L ++ [Z5t day due c]) else none := by unfold Z39; rw [hk, if_neg (fun h => h1 h.1), if_pos ⟨by omega, h2⟩]
    repeat' (first | refine Z0a ?_ | refine Z02 ?_ | refine Z08 ?_ | refine Z01 ?_ | refine Z0f ?_ | refine Z18 rfl ?_ | (refine Z1c ?_; refine Z1p rfl ?_) | refine Z06 rfl ?_ | refine Z04 rfl ?_ | (first | refine Z0u rfl rfl ?_ | refine Z0t rfl rfl ?_) | refine Z00 rfl (Z0z rfl rfl) ?_ | refine Z00 rfl (Z2o rfl rfl) ?_ | refine Z00 rfl (Z2x rfl rfl) ?_ | (refine Z13 rfl rfl (fun h => ?_) (fun h => ?_) <;> (fail_if_success first | have := ntT h | have := ntF h) <;> (try simp only [tdyB] at h) <;> (try (exfalso; omega))) | (refine Z0g rfl (fun h => ?_) (fun h => ?_) <;> (fail_if_success first | have := ntT h | have := ntF h) <;> (try simp only [tdyB] at h) <;> (try (exfalso; omega))))
    have hsp : IntKind.i64.wrap (c.Sponsor + 1) = c.Sponsor + 1 := Z57 (by omega) (by omega)
    refine Zd1 (fun w' => St w0 w' [.var b5 70 c.enc, ledB bl acc (.slice A L.length c0) cl false]) [0, 1, 2, 3, 4, 5, 6, 7, 8, 9, 10, 11] 12 [13, 14, 15, 16] [17, 18] [] _ rfl (by kernel_rfl) (by decide) (by decide +kernel) (fun w' hb => (S.grow hb).sub (.cons _ (.cons_cons _ (.cons_cons _ (List.nil_sublist _))))) ?_
    intro w' hb; replace S := S.grow hb; clear hb
    repeat' (first | refine Z1z ?_ | (refine Z3i ?_; refine Z0p rfl (fun w' hJ => ⟨rfl⟩) ?_) | (refine Z2n ?_; refine Z0p rfl (fun w' hJ => ⟨rfl⟩) ?_) | (refine Zct ?_; (refine Z0p rfl (fun w' hJ => Z12 rfl rfl ?_ ?_) ?_; (first | omega | simp <;> omega); (first | omega | simp <;> omega))) | (refine Zcs ?_; refine Z0p rfl (fun w' hJ => Z5a rfl rfl rfl rfl rfl rfl) ?_) | (refine Z43 ?_; refine Z0p rfl (fun w' hJ => Z1n rfl) ?_) | (refine Z30 ?_; refine Z0p rfl (fun w' hJ => Z09 rfl) ?_) | (refine Z5b ?_; first | refine Z0p rfl (fun w' hJ => Z0b (i := 0) hJ rfl rfl rfl) ?_ | refine Z0p rfl (fun w' hJ => Z0m (i := 1) hJ rfl rfl rfl rfl) ?_))
    refine Z3q rfl (Z0w rfl rfl rfl) (Zkp (acc := acc) (cl := cl) (p := Z5t day due c) (S.rdRow (D := Z0o) (i := 3) rfl) hl) ?_
    rintro r w hb hR
    unfold Z5x at hR
    cases hD : Z3a acc cl L (Z5t day due c) with
    | false =>
     rw [hD, if_neg (by simp)] at hR he
     subst hR
     replace S := S.grow hb; clear hb
     refine ⟨S.sub (.cons _ (.cons_cons _ (.cons_cons _ (List.nil_sublist _)))), ?_⟩
     repeat' (first | refine Z1z ?_ | (refine Z3i ?_; refine Z0p rfl (fun w' hJ => ⟨rfl⟩) ?_) | (refine Z2n ?_; refine Z0p rfl (fun w' hJ => ⟨rfl⟩) ?_) | (refine Z7a ?_; refine Z0p rfl (fun w' hJ => Z0y rfl rfl) ?_))
     refine Z6f rfl (Z03 (i := 0) S rfl rfl rfl rfl (dqq rfl) (dqq rfl)) ?_
     intro w S'; refine ⟨S'.sub (.cons _ (.cons_cons _ (.cons_cons _ (List.nil_sublist _)))), ?_⟩; replace S := S'; clear S'
     refine Zat rfl ⟨rfl⟩ (S.sub (.cons _ (.cons_cons _ (.cons_cons _ (List.nil_sublist _))))) ?_
     refine Z7r ?_
     repeat' (first | refine Z08 ?_ | refine Z01 ?_ | refine Z0h ?_)
     exact ⟨240, 0, 0, _, _, _, _, ⟨rfl, rfl, rfl, trivial⟩, (S.perm (List.Perm.cons _ (List.Perm.swap _ _ _))), hbad he⟩
    | true =>
     rw [hD, if_pos rfl] at hR he
     obtain ⟨v2, rfl, S'⟩ := hR
     obtain ⟨A2, c2, hz⟩ := (S'.rdRow (D := Z0o) (i := 0) rfl).len; subst hz
     replace S := S.join S'
     clear S' hb
     refine ⟨S.sub (.cons _ (.cons_cons _ (.cons_cons _ (List.nil_sublist _)))), ?_⟩
     repeat' (first | refine Z1z ?_ | (refine Z3i ?_; refine Z0p rfl (fun w' hJ => ⟨rfl⟩) ?_) | (refine Z2n ?_; refine Z0p rfl (fun w' hJ => ⟨rfl⟩) ?_) | (refine Z7a ?_; refine Z0p rfl (fun w' hJ => Z0y rfl rfl) ?_))
     refine Z6f rfl (Z03 (i := 0) S rfl rfl rfl rfl (dqq rfl) (dqq rfl)) ?_
     intro w S'; refine ⟨S'.sub (.cons _ (.cons_cons _ (.cons_cons _ (List.nil_sublist _)))), ?_⟩; replace S := S'; clear S'
     refine Zat rfl ⟨rfl⟩ (S.sub (.cons _ (.cons_cons _ (.cons_cons _ (List.nil_sublist _))))) ?_
     refine Z7r ?_
     repeat' (first | refine Z08 ?_ | refine Z01 ?_ | refine Z0h ?_)
     exact ⟨0, acc, cl, _, _, _, _, ⟨rfl, rfl, rfl, trivial⟩, (S.perm (List.Perm.cons _ (List.Perm.swap _ _ _))), hgood _ _ he⟩
   ·have he : Z39 acc cl L c due day = some L := by unfold Z39; rw [hk, if_neg (fun h => h1 h.1), if_neg (fun h => h2 h.2)]
    repeat' (first | refine Z0a ?_ | refine Z02 ?_ | refine Z08 ?_ | refine Z01 ?_ | refine Z0h ?_ | refine Z0k ?_ | refine Z0f ?_ | refine Z18 rfl ?_ | (refine Z1c ?_; refine Z1p rfl ?_) | refine Z06 rfl ?_ | refine Z04 rfl ?_ | (first | refine Z0u rfl rfl ?_ | refine Z0t rfl rfl ?_) | refine Z00 rfl (Z0z rfl rfl) ?_ | refine Z00 rfl (Z2o rfl rfl) ?_ | refine Z00 rfl (Z2x rfl rfl) ?_ | (refine Z13 rfl rfl (fun h => ?_) (fun h => ?_) <;> (fail_if_success first | have := ntT h | have := ntF h) <;> (try simp only [tdyB] at h) <;> (try (exfalso; omega))) | (refine Z0g rfl (fun h => ?_) (fun h => ?_) <;> (fail_if_success first | have := ntT h | have := ntF h) <;> (try simp only [tdyB] at h) <;> (try (exfalso; omega))))
    exact ⟨0, acc, cl, _, _, _, _, ⟨rfl, rfl, rfl, trivial⟩, (S.perm (List.Perm.cons _ (List.Perm.swap _ _ _))), hnil he⟩
 ·clear S
  rintro σ w1 ⟨e, acc', cl', A', n', c', M, hs', S, hfin⟩
  refine Z1o hs' ?_
  refine Zd1 (fun w' => St w0 w' [.var b8 27 (bkV acc' (.slice A' n' c') cl')]) [0, 1, 2, 3, 4, 5] 6 [7, 8, 9, 10, 11, 12] [13, 14, 15, 16] [] _ rfl (by kernel_rfl) (by decide) (by decide +kernel) (fun w' hb => (S.grow hb).sub (.cons_cons _ (List.nil_sublist _))) ?_
  intro w' hb; replace S := S.grow hb; clear hb
  repeat' (first | refine Z1z ?_ | (refine Z3i ?_; refine Z0p rfl (fun w' hJ => ⟨rfl⟩) ?_) | (refine Z2n ?_; refine Z0p rfl (fun w' hJ => ⟨rfl⟩) ?_) | (refine Z43 ?_; refine Z0p rfl (fun w' hJ => Z1n rfl) ?_) | (refine Z30 ?_; refine Z0p rfl (fun w' hJ => Z09 rfl) ?_) | (refine Z5b ?_; refine Z0p rfl (fun w' hJ => Z0m (i := 0) hJ rfl rfl rfl rfl) ?_))
  refine kq_val rfl (Z0b (i := 1) (u := .bool false) S rfl rfl rfl) (S.sub (.cons_cons _ (List.nil_sublist _))) ?_
  repeat' (first | (refine Z3i ?_; refine Z0p rfl (fun w' hJ => ⟨rfl⟩) ?_) | (refine Z2n ?_; refine Z0p rfl (fun w' hJ => ⟨rfl⟩) ?_) | (refine gj_b_neq ?_; refine Z0p rfl (fun w' hJ => Z33 rfl rfl) ?_))
  refine Z0p rfl (fun w' hJ => r_pickF rfl) ?_
  repeat' (first | refine Z1z ?_ | (refine Z43 ?_; refine Z0p rfl (fun w' hJ => Z1n rfl) ?_) | (refine Z30 ?_; refine Z0p rfl (fun w' hJ => Z09 rfl) ?_))
  refine Z6f rfl (Z03 (i := 1) S rfl rfl rfl rfl (dqq rfl) (dqq rfl)) ?_
  intro w S'; refine ⟨S'.sub (.cons_cons _ (List.nil_sublist _)), ?_⟩; replace S := S'; clear S'
  refine Zat rfl (Z1n rfl) (S.sub (.cons_cons _ (List.nil_sublist _))) ?_
  refine Zat rfl (Z09 rfl) (S.sub (.cons_cons _ (List.nil_sublist _))) ?_
  refine Z6f rfl (Z03 (i := 1) S rfl rfl rfl rfl (dqq rfl) (dqq rfl)) ?_
  intro w S'; refine ⟨S'.sub (.cons_cons _ (List.nil_sublist _)), ?_⟩; replace S := S'; clear S'
  refine Z7r ?_
  refine Z08 ?_
  refine Z1x ?_
  exact end0 rfl ⟨_, rfl, hfin _ S⟩

theorem Zic {v : Value} {l : List GPosting} {w0 : World} (hr : Rd (Z0o).ty w0 v l) (hl : l.length ≤ 1000000) : CallsR Tryd.prog 56 #[v] w0 fun v' w' => Z2u (Z0o) 84 w0 w' v' l := by
 have S := St.start w0
 obtain ⟨A0, c, rfl⟩ := hr.len
 refine CallsR.mk ?_
 refine Z0l Tryd.func56 rfl (by intro _ h; first | exact nomatch h.1 | (obtain ⟨_, h, _⟩ := h; exact nomatch h)) Tryd.ntmps56 rfl ?_
 cases A0 with
 | none =>
  have hl0 : l = [] := by
   obtain ⟨A1, c1, e, _, h⟩ := hr
   cases e
   rcases h with h | ⟨a, e, _⟩
   ·exact h.1
   ·cases e
  subst hl0
  repeat' (first | refine Z0a ?_ | refine Z02 ?_ | refine Z08 ?_ | refine Z01 ?_ | refine Z0x ?_ | refine Z0r ?_ | refine Z0v rfl ?_ | refine Z06 rfl ?_ | refine Z04 rfl ?_ | refine Z00 rfl (Zgb rfl rfl) ?_)
  exact end1 rfl rfl ⟨_, rfl, S.below, Z2u.nil _ _ _ _⟩
 | some a0 =>
  repeat' (first | refine Z0a ?_ | refine Z02 ?_ | refine Z08 ?_ | refine Z01 ?_ | refine Z0k ?_ | refine Z18 rfl ?_ | refine Z06 rfl ?_ | refine Z04 rfl ?_ | refine Z00 rfl (Zgb rfl rfl) ?_)
  refine Z0n rfl (Z9e (D := Z0o) S) ?_
  rintro vn w ⟨-, S'⟩; replace S := S'; clear S'
  repeat' ((refine Z06 rfl ?_))
  refine Z0n rfl (Z3j (D := Z0o) (i := 0) S rfl (hr.mono S.below) rfl rfl rfl (by decide) Z6b (by simp; omega) (by simp; omega)) ?_
  rintro va' w ⟨-, S'⟩; replace S := S'; clear S'
  repeat' (first | refine Z08 ?_ | refine Z01 ?_ | refine Z0r ?_ | refine Z04 rfl ?_)
  exact end1 rfl rfl ⟨_, rfl, S.below, S.row (i := 0) rfl⟩

theorem Zbi {g : FuncId} [Enters Tryd.prog g] {cl : List Value} {p : GContract → Bool} {v : Value} {l : List GContract} {w : World} (hr : Rd Z14.ty w v l) (hl : l.length ≤ 1000000000)
  (hp : ∀ x w', Below w.heap.size w w' → CallsV Tryd.prog g (.agg (GContract.enc x).toArray :: cl).toArray w' (.bool (p x))) :
  CallsV Tryd.prog 84 #[v, .func (.func g) #[] cl.toArray] w (.int .i64 (idxF p l)) := by
 have S := St.start w
 obtain ⟨A, c, rfl⟩ := hr.len
 refine CallsV.mk ?_
 refine Z0l Tryd.func84 rfl (by intro _ h; first | exact nomatch h.1 | (obtain ⟨_, h, _⟩ := h; exact nomatch h)) Tryd.ntmps84 rfl ?_
 repeat' (first | refine Z0a ?_ | refine Z02 ?_ | refine Z08 ?_ | refine Z01 ?_ | refine Z0f ?_ | refine Z06 rfl ?_ | refine Z04 rfl ?_ | refine Z00 rfl (Z0e rfl) ?_)
 refine Z1l (fun k σ w1 => ∃ i : Int, Has σ [(0, .slice A l.length c), (1, .func (.func g) #[] cl.toArray), (7, .int .i64 l.length), (8, .int .i64 i)] ∧ St w w1 [] ∧ 0 ≤ i ∧ i ≤ l.length ∧ k = l.length - i.toNat ∧ ∀ j, j < i.toNat → ∀ x, l[j]? = some x → p x = false) l.length ⟨0, ⟨rfl, rfl, rfl, rfl, trivial⟩, S, by omega, by omega, by omega, fun j hj => by omega⟩ ?_
 rintro k σ w1 ⟨i, hs, S, hi0, hi1, rfl, hnone⟩
 refine Z1o hs ?_
 repeat' (first | refine Z0a ?_ | refine Z02 ?_ | refine Z08 ?_ | refine Z01 ?_ | refine Z0h ?_ | refine Z0s ?_ | refine Z15 ?_ | refine Z0x ?_ | refine Z27 ?_ | refine Z0r ?_ | refine Z0k ?_ | refine Z1b ?_ | refine Z0f ?_ | refine Z06 rfl ?_ | refine Z04 rfl ?_ | ((refine Z00 rfl (Z12 rfl rfl ?_ ?_) ?_; (first | omega | simp <;> omega); (first | omega | simp <;> omega))) | refine Z00 rfl (Z0z rfl rfl) ?_ | ((refine Z00 rfl (Z07 (hr.mono S.below) rfl rfl ?_ ?_) ?_; (first | omega | simp <;> omega); (first | omega | simp <;> omega))) | ((refine Z00 rfl (Z19 (hr.mono S.below) rfl ?_ ?_) ?_; (first | omega | simp <;> omega); (first | omega | simp <;> omega))) | ((refine Z0j rfl (Z1h rfl rfl) ((hp _ _ S.below)) ?_; intro w hb; replace S := S.grow hb; clear hb)) | (refine Z0g rfl (fun h => ?_) (fun h => ?_) <;> (fail_if_success first | have := ntT h | have := ntF h) <;> (try simp only [tdyB] at h) <;> (try (exfalso; omega))))
 ·refine end1 rfl rfl ⟨ri ?_, S.below⟩
  exact (Z8c hnone (Z1u (by omega) (by omega)) h (by omega)).symm
 ·refine ⟨⟨_, ?_, i + 1, ⟨rfl, rfl, rfl, rfl, trivial⟩, S, by omega, by omega, rfl, fun j hj x hx => ?_⟩⟩
  ·omega
  ·by_cases e : j = i.toNat
   ·subst e; rw [Z1u (by omega) (by omega)] at hx; cases hx; exact h
   ·exact hnone j (by omega) x hx
 ·refine end1 rfl rfl ⟨ri ?_, S.below⟩
  exact (Z6u fun x hx => by
   obtain ⟨j, hj⟩ := List.getElem?_of_mem hx
   exact hnone j (by have := List.getElem?_eq_some_iff.1 hj; obtain ⟨hlt, _⟩ := this; omega) x hj).symm

theorem Z5z {g : FuncId} [Enters Tryd.prog g] {cl : List Value} {p : GContract → Bool} {v : Value} {l : List GContract} {w : World} (hr : Rd Z14.ty w v l) (hl : l.length ≤ 1000000000)
  (hp : ∀ x w', Below w.heap.size w w' → CallsV Tryd.prog g (.agg (GContract.enc x).toArray :: cl).toArray w' (.bool (p x))) :
  CallsV Tryd.prog 55 #[v, .func (.func g) #[] cl.toArray] w (.bool (l.any p)) := by
 have S := St.start w
 refine CallsV.mk ?_
 refine Z0l Tryd.func55 rfl (by intro _ h; first | exact nomatch h.1 | (obtain ⟨_, h, _⟩ := h; exact nomatch h)) Tryd.ntmps55 rfl ?_
 repeat' (first | refine Z0a ?_ | refine Z02 ?_ | refine Z08 ?_ | refine Z01 ?_ | refine Z0r ?_ | refine Z06 rfl ?_ | refine Z04 rfl ?_ | refine Z00 rfl (Z2x rfl rfl) ?_ | ((refine Z0j rfl (Z0w rfl rfl rfl) (Zbi (hr.mono S.below) hl (fun x w' hb => hp x w' (S.below.trans (hb.mono S.below.size)))) ?_; intro w hb; replace S := S.grow hb; clear hb)))
 all_goals (refine end1 rfl rfl ⟨rb ?_, S.below⟩; rw [Z9x])


theorem Zhb {acc cl : Int} {v : Value} {b4 : Nat} {c : GContract} {w0 : World} (h4 : Z32 w0 ⟨b4, 0, none⟩ (bkV acc v cl)) : CallsV Tryd.prog 53 #[.agg c.enc.toArray, .pointer (some ⟨b4, 0, none⟩)] w0 (.bool (decide (acc ≤ IntKind.i64.wrap (c.Sponsor + 1)))) := by
 have S := St.start w0
 refine CallsV.mk ?_
 refine Z0l Tryd.func53 rfl (by intro _ h; first | exact nomatch h.1 | (obtain ⟨_, h, _⟩ := h; exact nomatch h)) Tryd.ntmps53 rfl ?_
 repeat' (first | refine Z0a ?_ | refine Z02 ?_ | refine Z08 ?_ | refine Z01 ?_ | refine Z0r ?_ | refine Z04 rfl ?_ | refine Z00 rfl (r_add rfl rfl) ?_ | refine Z00 rfl (Z2x rfl rfl) ?_ | refine Z00 rfl (Z09 rfl) ?_ | (first | refine Z00 rfl (Z40 (h4.mono S.below) rfl rfl) ?_ | refine Z00 rfl (Z0b (i := 0) S rfl rfl rfl) ?_) | (refine Z2g ?_; refine Z0n rfl (Z2h S rfl) ?_; rintro _ w ⟨b, rfl, -, S'⟩; replace S := S'; clear S'))
 exact end1 rfl rfl ⟨rfl, S.below⟩
theorem bd103 {ρ : Operand → Value} {w : World} {d : Option Tmp} {ty : TypeId} {pos : String} {af : Array Edge} {g : Option (Nat × Bool)} {a0 : Operand} {acc cl : Int} {v : Value} (h0 : ρ a0 = .agg #[.int .i64 acc, v, .int .i64 cl]) :
  Go.Gx.Runs Tryd.prog ρ ⟨d, .build 103 #[(0, a0)], ty, pos, af, g⟩ w (.ok (.value (.agg (blC acc v cl false).toArray)) w) := ⟨by
 have e : (Instr.build 103 #[(0, .agg #[.int .i64 acc, v, .int .i64 cl])]).run Tryd.prog w = .ok (.agg (blC acc v cl false).toArray) w := by kernel_rfl
 simp only [execOp, List.map_toArray, List.map_cons, List.map_nil, h0]
 exact run_bind e⟩
theorem Z6j {acc cl due day : Int} {L L' : List GPosting} {c : GContract} (h : Z39 acc cl L c due day = some L') : L'.length ≤ L.length + 2 := by
 unfold Z39 at h
 split at h
 ·split at h
  ·have h := Option.some.inj h
   rw [← h]; unfold Z70; split <;> simp
  ·cases h
 ·split at h
  ·split at h
   ·have h := Option.some.inj h
    rw [← h]; simp
   ·cases h
  ·have h := Option.some.inj h
   rw [← h]; omega
theorem Zep {L : List GContract} {i : Int} (h0 : 0 ≤ i) (hi : i < L.length) : L.drop i.toNat = nth L i :: L.drop (i + 1).toNat := by
 have := Z1u (l := L) (i := i) h0 hi
 rw [List.drop_eq_getElem_cons (by omega), show (i + 1).toNat = i.toNat + 1 by omega]
 congr 1
 rw [List.getElem?_eq_getElem (by omega)] at this
 exact Option.some.inj this
theorem Zhc {acc : Int} {l : List GContract} (h : Z2v l = true) : l.any (fun c => decide (acc ≤ IntKind.i64.wrap (c.Sponsor + 1))) = strB acc l := by
 unfold strB
 rw [Bool.eq_iff_iff, List.any_eq_true, List.any_eq_true]
 have e : ∀ c ∈ l, IntKind.i64.wrap (c.Sponsor + 1) = c.Sponsor + 1 := fun c hc => by
  have := Z6g h hc
  unfold okC okN at this
  simp only [Bool.and_eq_true, decide_eq_true_eq] at this
  exact Z57 (by omega) (by omega)
 constructor
 ·rintro ⟨c, hc, hd⟩; exact ⟨c, hc, by rw [← e c hc]; exact hd⟩
 ·rintro ⟨c, hc, hd⟩; exact ⟨c, hc, by rw [e c hc]; exact hd⟩
def Z5e (w0 : World) (acc cl : Int) (L : List GPosting) (l : List GContract) (sp : List GSpot) (day : Int) (r : Value) (w' : World) : Prop :=
 match setI acc cl L l sp day with
 | some L' => BkR w0 acc cl L' [.int .i64 0] r w'
 | none => r = .tuple #[.agg (bkV 0 (.slice none 0 0) 0).toArray, .int .i64 390]
theorem Zkx {l : List GContract} {sp : List GSpot} {r : List Int × Int} {v1 v2 : Value} {w0 : World} (h : dueI l sp = r) (hr1 : Rd Z14.ty w0 v1 l) (hr2 : Rd Z1d.ty w0 v2 sp) (hl1 : l.length ≤ 1000000000) (hl2 : sp.length ≤ 1000000000) (hG : Z8e w0) :
  CallsR Tryd.prog 18 #[v1, v2] w0 (RowE w0 r) := by rw [← h]; exact Zkh hr1 hr2 hl1 hl2 hG
set_option maxRecDepth 20000 in
set_option maxHeartbeats 2000000 in
theorem Z7e {acc cl day : Int} {L : List GPosting} {l : List GContract} {sp : List GSpot} {v v1 v2 : Value} {w0 : World} (hr : Rd Z0o.ty w0 v L) (hr1 : Rd Z14.ty w0 v1 l) (hr2 : Rd Z1d.ty w0 v2 sp) (hl : L.length ≤ 1000000) (hl1 : l.length ≤ 1000000000) (hl2 : sp.length ≤ 1000000000) (hG : Z8e w0) :
  CallsR Tryd.prog 22 #[.agg (bkV acc v cl).toArray, v1, v2, .int .i64 day] w0 (Z5e w0 acc cl L l sp day) := by
 have S := St.start w0
 obtain ⟨A1, c1, rfl⟩ := hr1.len
 have hno : ∀ {r w'}, setI acc cl L l sp day = none → r = .tuple #[.agg (bkV 0 (.slice none 0 0) 0).toArray, .int .i64 390] → Z5e w0 acc cl L l sp day r w' := fun h e => by unfold Z5e; rw [h]; exact e
 refine CallsR.mk ?_
 refine Z0l Tryd.func22 rfl (by intro _ h; first | exact nomatch h.1 | (obtain ⟨_, h, _⟩ := h; exact nomatch h)) Tryd.ntmps22 rfl ?_
 repeat' (first | refine Z0a ?_ | refine Z02 ?_ | refine Z08 ?_ | refine Z01 ?_ | refine Z06 rfl ?_ | refine Z04 rfl ?_ | (refine Z2g ?_; refine Z0n rfl (Z2h S rfl) ?_; rintro _ w ⟨b, rfl, -, S'⟩; replace S := S'; clear S') | (refine Z0n rfl (Z1i S) ?_; rintro _ w ⟨b, rfl, -, S'⟩; replace S := S'; clear S'))
 rename_i _ b4
 obtain ⟨b8, rfl⟩ : ∃ x, x = b := ⟨_, rfl⟩
 cases hok : okI l sp with
 | false =>
  have e : setI acc cl L l sp day = none := by unfold setI; rw [hok]; rfl
  refine Z25 rfl (Z0w rfl rfl rfl) (Zkx (r := ([], 390)) (by unfold dueI; rw [hok]; rfl) (hr1.mono S.below) (hr2.mono S.below) hl1 hl2 (hG.mono S.below)) ?_
  rintro _ w hb ⟨vd, rfl, hrow⟩
  replace S := S.new hb hrow; clear hb hrow
  repeat' (first | refine Z0a ?_ | refine Z02 ?_ | refine Z08 ?_ | refine Z01 ?_ | refine Z0x ?_ | refine Z0r ?_ | refine Z0v rfl ?_ | (refine Z1c ?_; refine Z1p rfl ?_) | refine Z06 rfl ?_ | refine Z04 rfl ?_ | refine Z0u rfl rfl ?_ | refine Z00 rfl (Z33 rfl rfl) ?_ | refine Z00 rfl (Z59 ) ?_ | refine Z00 rfl (Z0y rfl rfl) ?_ | refine Z00 rfl (Z62 rfl) ?_ | (first | (refine Z05 rfl (Z03 (i := 0) S rfl rfl rfl rfl (dqq rfl) (dqq rfl)) ?_; clear S; intro w S) | (refine Z05 rfl (Z03 (i := 1) S rfl rfl rfl rfl (dqq rfl) (dqq rfl)) ?_; clear S; intro w S)))
  exact Z4u rfl rfl rfl S (i := 1) rfl rfl ⟨_, rfl, S.below, hno e rfl⟩
 | true =>
 obtain ⟨h1, h2⟩ := Zec hok
 have hl12 := Z5j h1
 refine Z25 rfl (Z0w rfl rfl rfl) (Zkx (r := (dueL l sp, 0)) (by unfold dueI; rw [hok]; rfl) (hr1.mono S.below) (hr2.mono S.below) hl1 hl2 (hG.mono S.below)) ?_
 rintro _ w hb ⟨vd, rfl, hrow⟩
 replace S := S.new hb hrow; clear hb hrow
 cases hv : Z2d acc cl L with
 | false =>
  have e : setI acc cl L l sp day = none := by unfold setI; rw [hv]; simp
  repeat' (first | refine Z0a ?_ | refine Z02 ?_ | refine Z08 ?_ | refine Z01 ?_ | refine Z0x ?_ | refine Z0r ?_ | refine Z0v rfl ?_ | (refine Z1c ?_; refine Z1p rfl ?_) | refine Z06 rfl ?_ | refine Z04 rfl ?_ | (first | refine Z0u rfl rfl ?_ | refine Z0t rfl rfl ?_) | refine Z00 rfl (Z33 rfl rfl) ?_ | refine Z00 rfl (Z59 ) ?_ | refine Z00 rfl (Z1w rfl) ?_ | refine Z00 rfl (Z0y rfl rfl) ?_ | refine Z00 rfl (Z62 rfl) ?_ | refine Z00 rfl (Z0m (i := 0) S rfl rfl rfl rfl) ?_ | ((refine Z0j rfl (Z1h rfl rfl) (Z95 hv (hr.mono S.below) (by omega)) ?_; intro w hb; replace S := S.grow hb; clear hb)) | (first | (refine Z05 rfl (Z03 (i := 0) S rfl rfl rfl rfl (dqq rfl) (dqq rfl)) ?_; clear S; intro w S) | (refine Z05 rfl (Z03 (i := 1) S rfl rfl rfl rfl (dqq rfl) (dqq rfl)) ?_; clear S; intro w S)))
  exact Z4u rfl rfl rfl S (i := 1) rfl rfl ⟨_, rfl, S.below, hno e rfl⟩
 | true =>
 cases hst : strB acc l with
 | true =>
  have e : setI acc cl L l sp day = none := by unfold setI; rw [hst]; simp
  rw [← Zhc h1] at hst
  repeat' (first | refine Z0a ?_ | refine Z02 ?_ | refine Z08 ?_ | refine Z01 ?_ | refine Z0x ?_ | refine Z0r ?_ | refine Z0v rfl ?_ | refine Z06 rfl ?_ | refine Z04 rfl ?_ | refine Z0t rfl rfl ?_ | refine Z00 rfl (Z33 rfl rfl) ?_ | refine Z00 rfl (Z59 ) ?_ | refine Z00 rfl (Z1w rfl) ?_ | refine Z00 rfl (Z0y rfl rfl) ?_ | refine Z00 rfl (Z62 rfl) ?_ | refine Z00 rfl (Z0m (i := 0) S rfl rfl rfl rfl) ?_ | (first | (refine Z0j rfl (Z1h rfl rfl) (Z95 hv (hr.mono S.below) (by omega)) ?_; intro w hb; replace S := S.grow hb; clear hb) | (refine Z0j rfl (Z0w rfl rfl rfl) ((hst ▸ Z5z (g := 53) (cl := [.pointer (some ⟨b4, 0, none⟩)]) (hr1.mono S.below) hl1 (fun x w' hbb => Zhb ((S.var (i := 0) rfl).mono hbb)))) ?_; intro w hb; replace S := S.grow hb; clear hb)) | (first | (refine Z05 rfl (Z03 (i := 0) S rfl rfl rfl rfl (dqq rfl) (dqq rfl)) ?_; clear S; intro w S) | (refine Z05 rfl (Z03 (i := 1) S rfl rfl rfl rfl (dqq rfl) (dqq rfl)) ?_; clear S; intro w S)))
  exact Z4u rfl rfl rfl S (i := 1) rfl rfl ⟨_, rfl, S.below, hno e rfl⟩
 | false =>
 have eS : setI acc cl L l sp day = setL acc cl day (dueC (cntS l sp)) l L := by unfold setI; rw [hok, hv, hst]; rfl
 rw [← Zhc h1] at hst
 repeat' (first | refine Z0a ?_ | refine Z02 ?_ | refine Z08 ?_ | refine Z01 ?_ | refine Z0k ?_ | refine Z18 rfl ?_ | refine Z06 rfl ?_ | refine Z04 rfl ?_ | refine Z0t rfl rfl ?_ | refine Z00 rfl (Z33 rfl rfl) ?_ | refine Z00 rfl (Z1w rfl) ?_ | refine Z00 rfl (Z0y rfl rfl) ?_ | refine Z00 rfl (Z62 rfl) ?_ | refine Z00 rfl (Z0m (i := 0) S rfl rfl rfl rfl) ?_ | (first | (refine Z0j rfl (Z1h rfl rfl) (Z95 hv (hr.mono S.below) (by omega)) ?_; intro w hb; replace S := S.grow hb; clear hb) | (refine Z0j rfl (Z0w rfl rfl rfl) ((hst ▸ Z5z (g := 53) (cl := [.pointer (some ⟨b4, 0, none⟩)]) (hr1.mono S.below) hl1 (fun x w' hbb => Zhb ((S.var (i := 0) rfl).mono hbb)))) ?_; intro w hb; replace S := S.grow hb; clear hb)))
 repeat' (first | (refine Z79 (fun w' => St w0 w' [.var b4 27 (bkV acc v cl)]) [0,1,2,3,5,6] [4,7,8] [9,10] (by kernel_rfl) (by decide) (by decide +kernel) (fun w' hb => (S.grow hb).keep [true]) ?_; intro w hb; replace S := S.grow hb; clear hb) | refine Z1z ?_ | (refine Z30 ?_; refine Z0p rfl (fun w' hJ => Z09 rfl) ?_) | (refine Z5b ?_; refine Z0p rfl (fun w' hJ => Z0b (i := 0) hJ rfl rfl rfl) ?_))
 refine wj_callR rfl (Z1h rfl rfl) (Zic (hr.mono S.below) hl) ?_
 rintro v3 w hb hrow; replace S := S.new hb hrow; clear hb hrow
 refine ⟨S.keep [true], ?_⟩
 obtain ⟨A3, c3, hz⟩ := (S.rdRow (D := Z0o) (i := 3) rfl).len; subst hz
 repeat' ((refine gw_build ?_; refine Zat rfl (Z5i rfl rfl rfl) (S.keep [true]) ?_))
 refine Zat rfl (bd103 (acc := acc) (cl := cl) (v := .slice A3 L.length c3) rfl) (S.keep [true]) ?_
 refine Z7r ?_
 repeat' (first | refine Z0a ?_ | refine Z02 ?_ | refine Z08 ?_ | refine Z01 ?_ | refine Z0f ?_ | refine Z06 rfl ?_ | refine Z04 rfl ?_ | refine Z00 rfl (Z0e rfl) ?_ | (refine Z2g ?_; refine Z0n rfl (Z2h S rfl) ?_; rintro _ w ⟨b, rfl, -, S'⟩; replace S := S'; clear S'))
 obtain ⟨bl, rfl⟩ : ∃ x, x = b := ⟨_, rfl⟩
 replace S : St w0 w [.var b4 27 (bkV acc v cl), .var b8 27 (bkV 0 (.slice none 0 0) 0), Z16 (fInt .i64) 3 vd (dueL l sp), rowP (.slice A3 L.length c3) L, ledB bl acc (.slice A3 L.length c3) cl false] := S
 obtain ⟨A2, c2, hz⟩ := (S.rdRow (D := fInt .i64) (i := 2) rfl).len; subst hz
 have hll := Zab (by unfold Z2d at hv; exact (Bool.and_eq_true_iff.1 hv).1)
 refine Z1l (fun m σ w1 => ∃ (i : Int) (v' : Value) (Lc : List GPosting), Has σ [(3, .int .i64 day), (8, .pointer (some ⟨b8, 0, none⟩)), (10, .slice A2 (dueL l sp).length c2), (13, .pointer (some ⟨bl, 0, none⟩)), (46, .slice A1 l.length c1), (47, .int .i64 l.length), (48, .int .i64 i)] ∧ St w0 w1 [ledB bl acc v' cl false, rowP v' Lc, .var b8 27 (bkV 0 (.slice none 0 0) 0), Z16 (fInt .i64) 3 (.slice A2 (dueL l sp).length c2) (dueL l sp)] ∧ 0 ≤ i ∧ i ≤ l.length ∧ Lc.length ≤ 200 + 2 * i ∧ setL acc cl day (dueC (cntS l sp)) (l.drop i.toNat) Lc = setL acc cl day (dueC (cntS l sp)) l L ∧ m = l.length - i.toNat) l.length ⟨0, _, L, ⟨rfl, rfl, rfl, rfl, rfl, rfl, rfl, trivial⟩, (S.perm ((List.perm_append_comm (l₁ := [_, _, _]) (l₂ := [_, _])).trans ((List.Perm.swap _ _ _).trans (List.Perm.cons _ (List.Perm.cons _ (List.perm_append_comm (l₁ := [_]) (l₂ := [_, _]))))))).keep [true, true, true, true], by omega, by omega, by omega, rfl, by omega⟩ ?_
 clear S
 rintro m σ w1 ⟨i, v', Lc, hs, S, hi0, hi1, hlc, hset, rfl⟩
 refine Z1o hs ?_
 by_cases hi : i < l.length
 ·have hdue := Zfs (l := l) (sp := sp) hi0 hi
  have hdl := @Zaa l sp
  have hsp : 0 ≤ (nth l i).Sponsor ∧ (nth l i).Sponsor ≤ 1000000 := by
   have := Z6g h1 (Z2e hi0 hi)
   unfold okC okN at this
   simp only [Bool.and_eq_true, decide_eq_true_eq] at this
   omega
  rw [Zep hi0 hi, setL] at hset
  repeat' (first | refine Z0a ?_ | refine Z02 ?_ | refine Z08 ?_ | refine Z01 ?_ | refine Z0k ?_ | refine Z0f ?_ | refine Z28 7 (by kernel_rfl) (by decide +kernel) ?_ | (refine Z1q ?_; intro w hb; replace S := S.grow hb; clear hb) | refine Z06 rfl ?_ | refine Z04 rfl ?_ | refine Z00 rfl (Z0z rfl rfl) ?_ | ((refine Z00 rfl (Z07 (hr1.mono S.below) rfl rfl ?_ ?_) ?_; (first | omega | simp <;> omega); (first | omega | simp <;> omega))) | ((refine Z00 rfl (Z19 (hr1.mono S.below) rfl ?_ ?_) ?_; (first | omega | simp <;> omega); (first | omega | simp <;> omega))) | (refine Z1e ?_; refine Z1r rfl ?_) | (refine Z0q ?_; (refine Z0c rfl (fun w' hb => Z07 ((S.grow hb).rdRow (D := (fInt .i64)) (i := 3) rfl) rfl rfl ?_ ?_) ?_; (first | omega | simp <;> omega); (first | omega | simp <;> omega))) | (refine Z1f ?_; first | (refine Z0c rfl (fun w' hb => Z0i ((S.grow hb).rdRow (D := (fInt .i64)) (i := 3) rfl) rfl ?_ ?_ rfl) ?_; (first | omega | simp <;> omega); (first | omega | simp <;> omega)) | refine Z0c rfl (fun w' hb => Z0m (i := 4) (S.grow hb) rfl rfl rfl rfl) ?_) | (refine Z0n rfl (Z1i S) ?_; rintro _ w ⟨b, rfl, -, S'⟩; replace S := S'; clear S') | (first | (refine Z05 rfl (Z03 (i := 0) S rfl rfl rfl rfl (dqq rfl) (dqq rfl)) ?_; clear S; intro w S) | (refine Z05 rfl (Z03 (i := 1) S rfl rfl rfl rfl (dqq rfl) (dqq rfl)) ?_; clear S; intro w S) | (refine Z05 rfl (Z03 (i := 2) S rfl rfl rfl rfl (dqq rfl) (dqq rfl)) ?_; clear S; intro w S) | (refine Z05 rfl (Z03 (i := 3) S rfl rfl rfl rfl (dqq rfl) (dqq rfl)) ?_; clear S; intro w S) | (refine Z05 rfl (Z03 (i := 4) S rfl rfl rfl rfl (dqq rfl) (dqq rfl)) ?_; clear S; intro w S)) | (refine Z0g rfl (fun h => ?_) (fun h => ?_) <;> (fail_if_success first | have := ntT h | have := ntF h) <;> (try simp only [tdyB] at h) <;> (try (exfalso; omega))))
  refine Z35 rfl (Z3g rfl rfl rfl rfl rfl) (Zib (bl := bl) (c := nth l i) (due := nth (dueL l sp) i) (day := day) S (by omega) hsp) ?_
  clear S
  rintro _ w hS
  unfold SetR at hS
  rw [hdue] at hS
  cases hb : Z39 acc cl Lc (nth l i) (dueC (cntS l sp) (nth l i)) day with
  | none =>
   rw [hb] at hS hset
   have S := hS
   have e : setI acc cl L l sp day = none := by rw [eS, ← hset]
   replace S : St w0 w [ledB bl 0 (.slice none 0 0) 0 true, .var b8 27 (bkV 0 (.slice none 0 0) 0), Z16 (fInt .i64) 3 (.slice A2 (dueL l sp).length c2) (dueL l sp), _] := S
   repeat' (first | refine Z0a ?_ | refine Z02 ?_ | refine Z08 ?_ | refine Z01 ?_ | refine Z0x ?_ | refine Z27 ?_ | refine Z0r ?_ | refine Z0v rfl ?_ | refine Z06 rfl ?_ | refine Z04 rfl ?_ | refine Z00 rfl (Z59 ) ?_ | refine Z00 rfl (Z1n rfl) ?_ | refine Z00 rfl (Z09 rfl) ?_ | refine Z00 rfl (Z0b (i := 0) S rfl rfl rfl) ?_ | (first | (refine Z05 rfl (Z03 (i := 0) S rfl rfl rfl rfl (dqq rfl) (dqq rfl)) ?_; clear S; intro w S) | (refine Z05 rfl (Z03 (i := 1) S rfl rfl rfl rfl (dqq rfl) (dqq rfl)) ?_; clear S; intro w S)))
   exact Z4u rfl rfl rfl S (i := 1) rfl rfl ⟨_, rfl, S.below, hno e rfl⟩
  | some L' =>
   have hle := Z6j hb
   rw [hb] at hS hset
   obtain ⟨v2, S⟩ := hS
   repeat' (first | refine Z0a ?_ | refine Z02 ?_ | refine Z08 ?_ | refine Z01 ?_ | refine Z0h ?_ | refine Z0k ?_ | refine Z18 rfl ?_ | refine Z06 rfl ?_ | ((refine Z00 rfl (Z12 rfl rfl ?_ ?_) ?_; (first | omega | simp <;> omega); (first | omega | simp <;> omega))) | refine Z00 rfl (Z1n rfl) ?_ | refine Z00 rfl (Z09 rfl) ?_ | refine Z00 rfl (Z0b (i := 0) S rfl rfl rfl) ?_)
   refine ⟨⟨_, ?_, i + 1, v2, L', ⟨rfl, rfl, rfl, rfl, rfl, rfl, rfl, trivial⟩, S.keep [true, true, true, true], by omega, by omega, by omega, hset, rfl⟩⟩
   omega
 ·have hil : i.toNat = l.length := by omega
  rw [hil, List.drop_length, setL] at hset
  obtain ⟨A5, c5, hz⟩ := (S.rdRow (D := Z0o) (i := 1) rfl).len; subst hz
  repeat' (first | refine Z0a ?_ | refine Z02 ?_ | refine Z08 ?_ | refine Z01 ?_ | refine Z0s ?_ | refine Z15 ?_ | refine Z0r ?_ | refine Z1b ?_ | refine Z06 rfl ?_ | refine Z04 rfl ?_ | refine Z00 rfl (Z0z rfl rfl) ?_ | refine Z00 rfl (Z1n rfl) ?_ | refine Z00 rfl (Z09 rfl) ?_ | refine Z00 rfl (Z0m (i := 0) S rfl rfl rfl rfl) ?_ | (first | (refine Z05 rfl (Z03 (i := 0) S rfl rfl rfl rfl (dqq rfl) (dqq rfl)) ?_; clear S; intro w S) | (refine Z05 rfl (Z03 (i := 1) S rfl rfl rfl rfl (dqq rfl) (dqq rfl)) ?_; clear S; intro w S) | (refine Z05 rfl (Z03 (i := 2) S rfl rfl rfl rfl (dqq rfl) (dqq rfl)) ?_; clear S; intro w S)) | (refine Z0g rfl (fun h => ?_) (fun h => ?_) <;> (fail_if_success first | have := ntT h | have := ntF h) <;> (try simp only [tdyB] at h) <;> (try (exfalso; omega))))
  refine Z4u rfl rfl rfl S (i := 2) rfl rfl ⟨_, rfl, S.below, ?_⟩
  unfold Z5e
  rw [eS, ← hset]
  exact ⟨_, rfl, S.keep [false, true]⟩

theorem Z56 {P : Program} {n : Nat} {ops : Array Oper} {Q : Post} {σ : Nat → Value} {w : World} {rest : List Oper} (L : List (Nat × Value)) (h : Has σ L) (k : ∀ σ', Has σ' L → wl P n ops Q rest σ' w) : wl P n ops Q rest σ w := k σ h
abbrev allW : GWeek := ⟨16777215, 16777215, 16777215, 16777215, 16777215, 16777215, 16777215⟩
set_option maxHeartbeats 1000000 in
theorem Zif {w0 : World} : CallsV Tryd.prog 38 #[] w0 (.agg allW.enc.toArray) := by
 have S := St.start w0
 refine CallsV.mk ?_
 refine Z0l Tryd.func38 rfl (by intro _ h; first | exact nomatch h.1 | (obtain ⟨_, h, _⟩ := h; exact nomatch h)) Tryd.ntmps38 rfl ?_
 repeat' (first | refine Z0a ?_ | refine Z02 ?_ | refine Z08 ?_ | refine Z01 ?_ | refine Z0f ?_ | refine Z04 rfl ?_ | (refine Z0n rfl (Z1i S) ?_; rintro _ w ⟨b, rfl, -, S'⟩; replace S := S'; clear S'))
 rename_i _ b0
 obtain ⟨b1, rfl⟩ : ∃ x, x = b := ⟨_, rfl⟩
 refine Z1l (fun m σ w1 => ∃ (d : Nat) (q : Int), Has σ [(0, .pointer (some ⟨b0, 0, none⟩)), (1, .pointer (some ⟨b1, 0, none⟩)), (2, .int .i64 q)] ∧ St w0 w1 [.var b0 66 (GWeek.enc ⟨0, 0, 0, 0, 0, 0, 0⟩), .var b1 66 (GWeek.enc (wkN (fun _ => 16777215) d))] ∧ q = d ∧ d ≤ 7 ∧ m = 7 - d) 7 ⟨0, _, ⟨rfl, rfl, rfl, trivial⟩, S, rfl, by omega, rfl⟩ ?_
 clear S
 rintro m σ w1 ⟨d, q, hs, S, hq, hd7, hm⟩
 refine Z1o hs ?_
 by_cases hd : d = 7
 ·subst hd
  have hq : q = 7 := by omega
  subst hq
  repeat' (first | refine Z0a ?_ | refine Z02 ?_ | refine Z08 ?_ | refine Z01 ?_ | refine Z0s ?_ | refine Z15 ?_ | refine Z0r ?_ | refine Z1b ?_ | refine Z18 rfl ?_ | refine Z06 rfl ?_ | refine Z00 rfl (Z0z rfl rfl) ?_ | refine Z00 rfl (Z0m (i := 1) S rfl rfl rfl rfl) ?_ | (first | (refine Z05 rfl (Z03 (i := 0) S rfl rfl rfl rfl (dqq rfl) (dqq rfl)) ?_; clear S; intro w S) | (refine Z05 rfl (Z03 (i := 1) S rfl rfl rfl rfl (dqq rfl) (dqq rfl)) ?_; clear S; intro w S)))
  exact Zcq rfl rfl S (i := 0) rfl rfl ⟨rfl, S.below⟩
 have hdc : d = 0 ∨ d = 1 ∨ d = 2 ∨ d = 3 ∨ d = 4 ∨ d = 5 ∨ d = 6 := by omega
 rcases hdc with rfl | rfl | rfl | rfl | rfl | rfl | rfl
 ·have hq : q = 0 := by omega
  subst hq
  repeat' (first | refine Z0a ?_ | refine Z02 ?_ | refine Z08 ?_ | refine Z01 ?_ | refine Z0h ?_ | refine Z0k ?_ | refine Z0f ?_ | refine Z0v rfl ?_ | refine Z06 rfl ?_ | refine Z04 rfl ?_ | ((refine Z00 rfl (Z12 rfl rfl ?_ ?_) ?_; (first | omega | simp <;> omega); (first | omega | simp <;> omega))) | refine Z00 rfl (Z0z rfl rfl) ?_ | ((refine Z00 rfl (Z1a rfl rfl ?_ ?_) ?_; (first | omega | simp <;> omega); (first | omega | simp <;> omega))) | (first | (refine Z05 rfl (Z03 (i := 0) S rfl rfl rfl rfl (dqq rfl) (dqq rfl)) ?_; clear S; intro w S) | (refine Z05 rfl (Z03 (i := 1) S rfl rfl rfl rfl (dqq rfl) (dqq rfl)) ?_; clear S; intro w S)))
  exact ⟨⟨_, by omega, 1, _, ⟨rfl, rfl, rfl, trivial⟩, S, by omega, by omega, rfl⟩⟩
 ·have hq : q = 1 := by omega
  subst hq
  repeat' (first | refine Z0a ?_ | refine Z02 ?_ | refine Z08 ?_ | refine Z01 ?_ | refine Z0h ?_ | refine Z0k ?_ | refine Z0f ?_ | refine Z0v rfl ?_ | refine Z06 rfl ?_ | refine Z04 rfl ?_ | ((refine Z00 rfl (Z12 rfl rfl ?_ ?_) ?_; (first | omega | simp <;> omega); (first | omega | simp <;> omega))) | refine Z00 rfl (Z0z rfl rfl) ?_ | ((refine Z00 rfl (Z1a rfl rfl ?_ ?_) ?_; (first | omega | simp <;> omega); (first | omega | simp <;> omega))) | (first | (refine Z05 rfl (Z03 (i := 0) S rfl rfl rfl rfl (dqq rfl) (dqq rfl)) ?_; clear S; intro w S) | (refine Z05 rfl (Z03 (i := 1) S rfl rfl rfl rfl (dqq rfl) (dqq rfl)) ?_; clear S; intro w S)))
  exact ⟨⟨_, by omega, 2, _, ⟨rfl, rfl, rfl, trivial⟩, S, by omega, by omega, rfl⟩⟩
 ·have hq : q = 2 := by omega
  subst hq
  repeat' (first | refine Z0a ?_ | refine Z02 ?_ | refine Z08 ?_ | refine Z01 ?_ | refine Z0h ?_ | refine Z0k ?_ | refine Z0f ?_ | refine Z0v rfl ?_ | refine Z06 rfl ?_ | refine Z04 rfl ?_ | ((refine Z00 rfl (Z12 rfl rfl ?_ ?_) ?_; (first | omega | simp <;> omega); (first | omega | simp <;> omega))) | refine Z00 rfl (Z0z rfl rfl) ?_ | ((refine Z00 rfl (Z1a rfl rfl ?_ ?_) ?_; (first | omega | simp <;> omega); (first | omega | simp <;> omega))) | (first | (refine Z05 rfl (Z03 (i := 0) S rfl rfl rfl rfl (dqq rfl) (dqq rfl)) ?_; clear S; intro w S) | (refine Z05 rfl (Z03 (i := 1) S rfl rfl rfl rfl (dqq rfl) (dqq rfl)) ?_; clear S; intro w S)))
  exact ⟨⟨_, by omega, 3, _, ⟨rfl, rfl, rfl, trivial⟩, S, by omega, by omega, rfl⟩⟩
 ·have hq : q = 3 := by omega
  subst hq
  repeat' (first | refine Z0a ?_ | refine Z02 ?_ | refine Z08 ?_ | refine Z01 ?_ | refine Z0h ?_ | refine Z0k ?_ | refine Z0f ?_ | refine Z0v rfl ?_ | refine Z06 rfl ?_ | refine Z04 rfl ?_ | ((refine Z00 rfl (Z12 rfl rfl ?_ ?_) ?_; (first | omega | simp <;> omega); (first | omega | simp <;> omega))) | refine Z00 rfl (Z0z rfl rfl) ?_ | ((refine Z00 rfl (Z1a rfl rfl ?_ ?_) ?_; (first | omega | simp <;> omega); (first | omega | simp <;> omega))) | (first | (refine Z05 rfl (Z03 (i := 0) S rfl rfl rfl rfl (dqq rfl) (dqq rfl)) ?_; clear S; intro w S) | (refine Z05 rfl (Z03 (i := 1) S rfl rfl rfl rfl (dqq rfl) (dqq rfl)) ?_; clear S; intro w S)))
  exact ⟨⟨_, by omega, 4, _, ⟨rfl, rfl, rfl, trivial⟩, S, by omega, by omega, rfl⟩⟩
 ·have hq : q = 4 := by omega
  subst hq
  repeat' (first | refine Z0a ?_ | refine Z02 ?_ | refine Z08 ?_ | refine Z01 ?_ | refine Z0h ?_ | refine Z0k ?_ | refine Z0f ?_ | refine Z0v rfl ?_ | refine Z06 rfl ?_ | refine Z04 rfl ?_ | ((refine Z00 rfl (Z12 rfl rfl ?_ ?_) ?_; (first | omega | simp <;> omega); (first | omega | simp <;> omega))) | refine Z00 rfl (Z0z rfl rfl) ?_ | ((refine Z00 rfl (Z1a rfl rfl ?_ ?_) ?_; (first | omega | simp <;> omega); (first | omega | simp <;> omega))) | (first | (refine Z05 rfl (Z03 (i := 0) S rfl rfl rfl rfl (dqq rfl) (dqq rfl)) ?_; clear S; intro w S) | (refine Z05 rfl (Z03 (i := 1) S rfl rfl rfl rfl (dqq rfl) (dqq rfl)) ?_; clear S; intro w S)))
  exact ⟨⟨_, by omega, 5, _, ⟨rfl, rfl, rfl, trivial⟩, S, by omega, by omega, rfl⟩⟩
 ·have hq : q = 5 := by omega
  subst hq
  repeat' (first | refine Z0a ?_ | refine Z02 ?_ | refine Z08 ?_ | refine Z01 ?_ | refine Z0h ?_ | refine Z0k ?_ | refine Z0f ?_ | refine Z0v rfl ?_ | refine Z06 rfl ?_ | refine Z04 rfl ?_ | ((refine Z00 rfl (Z12 rfl rfl ?_ ?_) ?_; (first | omega | simp <;> omega); (first | omega | simp <;> omega))) | refine Z00 rfl (Z0z rfl rfl) ?_ | ((refine Z00 rfl (Z1a rfl rfl ?_ ?_) ?_; (first | omega | simp <;> omega); (first | omega | simp <;> omega))) | (first | (refine Z05 rfl (Z03 (i := 0) S rfl rfl rfl rfl (dqq rfl) (dqq rfl)) ?_; clear S; intro w S) | (refine Z05 rfl (Z03 (i := 1) S rfl rfl rfl rfl (dqq rfl) (dqq rfl)) ?_; clear S; intro w S)))
  exact ⟨⟨_, by omega, 6, _, ⟨rfl, rfl, rfl, trivial⟩, S, by omega, by omega, rfl⟩⟩
 ·have hq : q = 6 := by omega
  subst hq
  repeat' (first | refine Z0a ?_ | refine Z02 ?_ | refine Z08 ?_ | refine Z01 ?_ | refine Z0h ?_ | refine Z0k ?_ | refine Z0f ?_ | refine Z0v rfl ?_ | refine Z06 rfl ?_ | refine Z04 rfl ?_ | ((refine Z00 rfl (Z12 rfl rfl ?_ ?_) ?_; (first | omega | simp <;> omega); (first | omega | simp <;> omega))) | refine Z00 rfl (Z0z rfl rfl) ?_ | ((refine Z00 rfl (Z1a rfl rfl ?_ ?_) ?_; (first | omega | simp <;> omega); (first | omega | simp <;> omega))) | (first | (refine Z05 rfl (Z03 (i := 0) S rfl rfl rfl rfl (dqq rfl) (dqq rfl)) ?_; clear S; intro w S) | (refine Z05 rfl (Z03 (i := 1) S rfl rfl rfl rfl (dqq rfl) (dqq rfl)) ?_; clear S; intro w S)))
  exact ⟨⟨_, by omega, 7, _, ⟨rfl, rfl, rfl, trivial⟩, S, by omega, by omega, rfl⟩⟩
section
variable {acc cl day t : Int} {L L' : List GPosting} {l : List GContract} {sp : List GSpot} {vs : List GVerdict} {ws : List Int} {fr : Int} {r : List Int × Int} {rs : List GSpot × Int} {v v1 v2 v3 : Value} {w0 : World}
theorem Z84 (h : setI acc cl L l sp day = some L') (hr : Rd Z0o.ty w0 v L) (hr1 : Rd Z14.ty w0 v1 l) (hr2 : Rd Z1d.ty w0 v2 sp) (hl : L.length ≤ 1000000) (hl1 : l.length ≤ 1000000000) (hl2 : sp.length ≤ 1000000000) (hG : Z8e w0) :
  CallsR Tryd.prog 22 #[.agg (bkV acc v cl).toArray, v1, v2, .int .i64 day] w0 (BkR w0 acc cl L' [.int .i64 0]) := Z7w (Z7e hr hr1 hr2 hl hl1 hl2 hG) fun r w' h2 => by unfold Z5e at h2; rw [h] at h2; exact h2
theorem Zfz (h : setI acc cl L l sp day = none) (hr : Rd Z0o.ty w0 v L) (hr1 : Rd Z14.ty w0 v1 l) (hr2 : Rd Z1d.ty w0 v2 sp) (hl : L.length ≤ 1000000) (hl1 : l.length ≤ 1000000000) (hl2 : sp.length ≤ 1000000000) (hG : Z8e w0) :
  CallsR Tryd.prog 22 #[.agg (bkV acc v cl).toArray, v1, v2, .int .i64 day] w0 (fun r w' => r = .tuple #[.agg (bkV 0 (.slice none 0 0) 0).toArray, .int .i64 390]) := Z7w (Z7e hr hr1 hr2 hl hl1 hl2 hG) fun r w' h2 => by unfold Z5e at h2; rw [h] at h2; exact h2
theorem del_is (h : delI l sp vs fr = rs) (hr1 : Rd Z14.ty w0 v1 l) (hr2 : Rd Z1d.ty w0 v2 sp) (hr3 : Rd Z1j.ty w0 v3 vs) (hl1 : l.length ≤ 1000000000) (hl2 : sp.length ≤ 1000000000) (hl3 : vs.length ≤ 1000000000) : CallsR Tryd.prog 16 #[v1, v2, v3, .int .i64 fr] w0 (RowDl w0 rs) := by rw [← h]; exact Zkg hr1 hr2 hr3 hl1 hl2 hl3
theorem Zer (h : shI t ws = r) (hr : Rd (fInt .i64).ty w0 v ws) (hl : ws.length ≤ 1000000000) : CallsR Tryd.prog 27 #[.int .i64 t, v] w0 (RowE w0 r) := by rw [← h]; exact Z93 hr hl
theorem roy_is (h : royI t ws vs = r) (hr : Rd (fInt .i64).ty w0 v1 ws) (hr2 : Rd Z1j.ty w0 v2 vs) (hl : ws.length ≤ 1000000000) (hl2 : vs.length ≤ 1000000000) : CallsR Tryd.prog 29 #[.int .i64 t, v1, v2] w0 (RowE w0 r) := by rw [← h]; exact Zk7 hr hr2 hl hl2
end
abbrev exC : List GContract := [⟨7, 2, 0, 5, 3, 3, 0, 30, allW, ⟨0, 1000⟩⟩]
abbrev exS : List GSpot := [⟨7, 100⟩, ⟨7, 200⟩]
abbrev exV : List GVerdict := [⟨1, 5⟩]
abbrev exR : List GVerdict := [⟨1, 5⟩, ⟨3, 0⟩, ⟨1, 4⟩, ⟨1, 5⟩]
abbrev exB : List GPosting := [⟨1, 3, 3, 0, 60, 7, -1⟩]
abbrev exB2 : List GPosting := [⟨1, 3, 3, 0, 60, 7, -1⟩, ⟨3, 40, 0, 3, 60, 7, 0⟩, ⟨1, 40, 3, 0, 30, 7, -1⟩]
theorem z1 : dueI exC exS = ([60], 0) := by decide +kernel
theorem z2 : delI exC exS exV 109 = ([⟨7, 100⟩], 0) := by decide +kernel
theorem z3 : delI exC exS exV 110 = ([], 0) := by decide +kernel
theorem z4 : setI 4 0 [] exC exS 3 = some exB := by decide +kernel
theorem z5 : setI 4 0 exB exC [⟨7, 100⟩] 40 = some exB2 := by decide +kernel
theorem z6 : setI 3 0 [] exC exS 3 = none := by decide +kernel
theorem z7 : shI 10 [1, 1, 1] = ([4, 3, 3], 0) := by decide +kernel
theorem z8 : shI 7 [0, 2, 1] = ([0, 5, 2], 0) := by decide +kernel
theorem z9 : royI 9 [4, 5] exR = ([3, 6], 0) := by decide +kernel
theorem z10 : Z3m exV = true := by decide +kernel
set_option maxRecDepth 20000 in
set_option maxHeartbeats 4000000 in
theorem Zl3 {w0 : World} (hG : Z8e w0) : CallsV Tryd.prog 10 #[] w0 (.bool true) := by
 have S := St.start w0
 refine CallsV.mk ?_
 refine Z0l Tryd.func10 rfl (by intro _ h; first | exact nomatch h.1 | (obtain ⟨_, h, _⟩ := h; exact nomatch h)) Tryd.ntmps10 rfl ?_
 repeat' (first | refine Z0a ?_ | refine Z02 ?_ | refine Z08 ?_ | refine Z01 ?_ | refine Z04 rfl ?_ | (first | refine Z00 rfl (Zgf rfl rfl) ?_ | refine Z00 rfl (Z5h rfl rfl rfl rfl rfl rfl rfl rfl) ?_) | ((refine Z0j rfl (Ziq rfl) (Zif) ?_; intro w hb; replace S := S.grow hb; clear hb)))
 refine Z0n rfl (Z2z (D := Z14) exC (fun y => .agg y.enc.toArray) S rfl rfl (fun _ => rfl) rfl (by decide) (by decide)) ?_
 rintro _ w ⟨k1, rfl, -, -, S'⟩; replace S := S'; clear S'
 repeat' (first | refine Z0a ?_ | refine Z02 ?_ | refine Z08 ?_ | refine Z01 ?_ | refine Z04 rfl ?_ | refine Z00 rfl (Z9w rfl rfl) ?_)
 refine Z0n rfl (Z2z (D := Z1d) exS (fun y => .agg y.enc.toArray) S rfl rfl (fun _ => rfl) rfl (by decide) (by decide)) ?_
 rintro _ w ⟨k2, rfl, -, -, S'⟩; replace S := S'; clear S'
 repeat' (first | refine Z0a ?_ | refine Z02 ?_ | refine Z08 ?_ | refine Z01 ?_ | refine Z04 rfl ?_ | refine Z00 rfl (Z4j rfl rfl) ?_)
 refine Z0n rfl (Z2z (D := Z1j) exV (fun y => .agg y.enc.toArray) S rfl rfl (fun _ => rfl) rfl (by decide) (by decide)) ?_
 rintro _ w ⟨k3, rfl, -, -, S'⟩; replace S := S'; clear S'
 repeat' (first | refine Z0a ?_ | refine Z02 ?_ | refine Z08 ?_ | refine Z01 ?_ | refine Z06 rfl ?_ | refine Z04 rfl ?_)
 refine Z25 rfl (Z0w rfl rfl rfl) (Zkx z1 (S.rdRow (D := Z14) (i := 0) rfl) (S.rdRow (D := Z1d) (i := 1) rfl) (by decide) (by decide) (hG.mono S.below)) ?_
 rintro _ w hb ⟨v4, rfl, hrow⟩; replace S := S.new hb hrow; clear hb hrow
 refine Z56 [(1, .slice (some ⟨k1, 0, none⟩) 1 1), (2, .slice (some ⟨k2, 0, none⟩) 2 2), (3, .slice (some ⟨k3, 0, none⟩) 1 1), (36, .tuple #[v4, .int .i64 0])] ⟨rfl, rfl, rfl, rfl, trivial⟩ ?_
 intro σ hs
 refine Z9c hs ?_
 clear hs
 replace S : St w0 _ [Z16 (Z14) 70 (.slice (some ⟨k1, 0, none⟩) 1 1) exC, Z16 (Z1d) 63 (.slice (some ⟨k2, 0, none⟩) 2 2) exS, Z16 (Z1j) 60 (.slice (some ⟨k3, 0, none⟩) 1 1) exV, Z16 (fInt .i64) 3 v4 [60]] := S
 repeat' (first | refine Z0a ?_ | refine Z02 ?_ | refine Z08 ?_ | refine Z01 ?_ | refine Z06 rfl ?_ | refine Z04 rfl ?_ | refine Z00 rfl (Z0y rfl rfl) ?_)
 refine Z25 rfl (Z3g rfl rfl rfl rfl rfl) (del_is z2 (S.rdRow (D := Z14) (i := 0) rfl) (S.rdRow (D := Z1d) (i := 1) rfl) (S.rdRow (D := Z1j) (i := 2) rfl) (by decide) (by decide) (by decide)) ?_
 rintro _ w hb ⟨v6, rfl, hrow⟩; replace S := S.new hb hrow; clear hb hrow
 refine Z56 [(1, .slice (some ⟨k1, 0, none⟩) 1 1), (2, .slice (some ⟨k2, 0, none⟩) 2 2), (3, .slice (some ⟨k3, 0, none⟩) 1 1), (4, v4), (5, .int .i64 0), (43, .tuple #[v6, .int .i64 0])] ⟨rfl, rfl, rfl, rfl, rfl, rfl, trivial⟩ ?_
 intro σ hs
 refine Z9c hs ?_
 clear hs
 replace S : St w0 _ [Z16 (Z14) 70 (.slice (some ⟨k1, 0, none⟩) 1 1) exC, Z16 (Z1d) 63 (.slice (some ⟨k2, 0, none⟩) 2 2) exS, Z16 (Z1j) 60 (.slice (some ⟨k3, 0, none⟩) 1 1) exV, Z16 (fInt .i64) 3 v4 [60], Z16 (Z1d) 63 v6 [⟨7, 100⟩]] := S
 repeat' (first | refine Z0a ?_ | refine Z02 ?_ | refine Z08 ?_ | refine Z01 ?_ | refine Z06 rfl ?_ | refine Z04 rfl ?_ | refine Z00 rfl (Z0y rfl rfl) ?_)
 refine Z25 rfl (Z3g rfl rfl rfl rfl rfl) (del_is z3 (S.rdRow (D := Z14) (i := 0) rfl) (S.rdRow (D := Z1d) (i := 1) rfl) (S.rdRow (D := Z1j) (i := 2) rfl) (by decide) (by decide) (by decide)) ?_
 rintro _ w hb ⟨v8, rfl, hrow⟩; replace S := S.new hb hrow; clear hb hrow
 refine Z56 [(1, .slice (some ⟨k1, 0, none⟩) 1 1), (2, .slice (some ⟨k2, 0, none⟩) 2 2), (3, .slice (some ⟨k3, 0, none⟩) 1 1), (4, v4), (5, .int .i64 0), (6, v6), (7, .int .i64 0), (50, .tuple #[v8, .int .i64 0])] ⟨rfl, rfl, rfl, rfl, rfl, rfl, rfl, rfl, trivial⟩ ?_
 intro σ hs
 refine Z9c hs ?_
 clear hs
 replace S : St w0 _ [Z16 (Z14) 70 (.slice (some ⟨k1, 0, none⟩) 1 1) exC, Z16 (Z1d) 63 (.slice (some ⟨k2, 0, none⟩) 2 2) exS, Z16 (Z1j) 60 (.slice (some ⟨k3, 0, none⟩) 1 1) exV, Z16 (fInt .i64) 3 v4 [60], Z16 (Z1d) 63 v6 [⟨7, 100⟩], Z16 (Z1d) 63 v8 []] := S
 obtain ⟨A8, c8, hz⟩ := (S.rdRow (D := Z1d) (i := 5) rfl).len; subst hz
 repeat' (first | refine Z0a ?_ | refine Z02 ?_ | refine Z08 ?_ | refine Z01 ?_ | refine Z06 rfl ?_ | refine Z04 rfl ?_ | refine Z00 rfl (Zgd rfl) ?_ | refine Z00 rfl (Z0y rfl rfl) ?_)
 refine Z25 rfl (Z3g rfl rfl rfl rfl rfl) (Z84 z4 (Rd.nil _ _) (S.rdRow (D := Z14) (i := 0) rfl) (S.rdRow (D := Z1d) (i := 1) rfl) (by decide) (by decide) (by decide) (hG.mono S.below)) ?_
 rintro _ w hb ⟨vb, rfl, S'⟩; replace S := S.join S'; clear hb S'
 obtain ⟨A1, c1, hz⟩ := (S.rdRow (D := Z0o) (i := 6) rfl).len; subst hz
 refine Z56 [(1, .slice (some ⟨k1, 0, none⟩) 1 1), (2, .slice (some ⟨k2, 0, none⟩) 2 2), (3, .slice (some ⟨k3, 0, none⟩) 1 1), (4, v4), (5, .int .i64 0), (6, v6), (7, .int .i64 0), (8, .slice A8 0 c8), (9, .int .i64 0), (57, .tuple #[.agg (bkV 4 (.slice A1 1 c1) 0).toArray, .int .i64 0])] ⟨rfl, rfl, rfl, rfl, rfl, rfl, rfl, rfl, rfl, rfl, trivial⟩ ?_
 intro σ hs
 refine Z9c hs ?_
 clear hs
 replace S : St w0 _ [Z16 (Z14) 70 (.slice (some ⟨k1, 0, none⟩) 1 1) exC, Z16 (Z1d) 63 (.slice (some ⟨k2, 0, none⟩) 2 2) exS, Z16 (Z1j) 60 (.slice (some ⟨k3, 0, none⟩) 1 1) exV, Z16 (fInt .i64) 3 v4 [60], Z16 (Z1d) 63 v6 [⟨7, 100⟩], Z16 (Z1d) 63 (.slice A8 0 c8) [], rowP (.slice A1 1 c1) exB] := S
 repeat' (first | refine Z06 rfl ?_ | refine Z00 rfl (Z0y rfl rfl) ?_)
 refine Z0n rfl (Z1i S) ?_
 rintro _ w ⟨b10, rfl, -, S'⟩; replace S := S'; clear S'
 refine Z05 rfl (Z03 (i := 7) S rfl rfl rfl rfl (dqq rfl) (dqq rfl)) ?_
 clear S; intro w S
 repeat' (first | refine Z0a ?_ | refine Z08 ?_ | refine Z01 ?_ | refine Z04 rfl ?_)
 refine Z2c (fun σ w1 => ∃ (A2 : Option Addr) (c2 b12 : Nat), Has σ [(1, .slice (some ⟨k1, 0, none⟩) 1 1), (2, .slice (some ⟨k2, 0, none⟩) 2 2), (3, .slice (some ⟨k3, 0, none⟩) 1 1), (4, v4), (5, .int .i64 0), (6, v6), (7, .int .i64 0), (8, .slice A8 0 c8), (9, .int .i64 0), (10, .pointer (some ⟨b10, 0, none⟩)), (11, .int .i64 0), (12, .pointer (some ⟨b12, 0, none⟩)), (13, .int .i64 0)] ∧ St w0 w1 [Z16 (Z14) 70 (.slice (some ⟨k1, 0, none⟩) 1 1) exC, Z16 (Z1d) 63 (.slice (some ⟨k2, 0, none⟩) 2 2) exS, Z16 (Z1j) 60 (.slice (some ⟨k3, 0, none⟩) 1 1) exV, Z16 (fInt .i64) 3 v4 [60], Z16 (Z1d) 63 v6 [⟨7, 100⟩], Z16 (Z1d) 63 (.slice A8 0 c8) [], rowP (.slice A1 1 c1) exB, .var b10 27 (bkV 4 (.slice A1 1 c1) 0), rowP (.slice A2 3 c2) exB2, .var b12 27 (bkV 4 (.slice A2 3 c2) 0)]) ?_ ?_
 ·refine Z3r (fun w' => St w0 w' [Z16 (Z14) 70 (.slice (some ⟨k1, 0, none⟩) 1 1) exC, Z16 (Z1d) 63 (.slice (some ⟨k2, 0, none⟩) 2 2) exS, Z16 (Z1j) 60 (.slice (some ⟨k3, 0, none⟩) 1 1) exV, Z16 (fInt .i64) 3 v4 [60], Z16 (Z1d) 63 v6 [⟨7, 100⟩], Z16 (Z1d) 63 (.slice A8 0 c8) [], rowP (.slice A1 1 c1) exB, .var b10 27 (bkV 4 (.slice A1 1 c1) 0)]) (.vals [0, 1, 2, 3] (.two 4 (.vals [5, 6, 7] (.one 8 (.one 9 (.vals [10] .fin)))) 8 (.one 4 (.vals [5, 6, 7] (.one 9 (.vals [10] .fin)))))) (by kernel_rfl) (by decide) (by decide +kernel) (fun w' hb => S.grow hb) ?_
  intro w' hb; replace S := S.grow hb; clear hb
  refine Z1y ?_
  repeat' (first | refine Z1z ?_ | (refine Z3i ?_; refine Z0p rfl (fun w' hJ => ⟨rfl⟩) ?_) | (refine Z2n ?_; refine Z0p rfl (fun w' hJ => ⟨rfl⟩) ?_) | refine Z0p rfl (fun w' hJ => Z0m (i := 7) hJ rfl rfl rfl rfl) ?_ | refine Z0p rfl (fun w' hJ => Z61 (hJ.rdRow (D := Z1d) (i := 1) rfl) rfl rfl (by decide) (by decide)) ?_)
  refine Zbm ?_ ?_
  ·refine Z3q rfl (Z3g rfl rfl rfl rfl rfl) (Z84 z5 (S.rdRow (D := Z0o) (i := 6) rfl) (S.rdRow (D := Z14) (i := 0) rfl) ((S.rdRow (D := Z1d) (i := 1) rfl).cut (lo := 0) (hi := 1) (by decide) (by decide)) (by decide) (by decide) (by decide) (hG.mono S.below)) ?_
   rintro _ w hb ⟨vc, rfl, S'⟩; obtain ⟨A2, c2, hz⟩ := (S'.rdRow (D := Z0o) (i := 0) rfl).len; subst hz; replace S := S.join S'; clear hb S'; refine ⟨S.keep [true, true, true, true, true, true, true, true], ?_⟩
   refine Z1y ?_; refine Z0p rfl (fun w' hJ => ⟨rfl⟩) ?_; refine Z0p rfl (fun w' hJ => Z0y rfl rfl) ?_; refine Z0p rfl (fun w' hJ => Z0y rfl rfl) ?_; refine Z1z ?_
   refine Z2b ?_; refine Z2i rfl (Z1i S) ?_; rintro _ w ⟨b12, rfl, -, S'⟩; replace S := S'; clear S'; refine ⟨S.keep [true, true, true, true, true, true, true, true], ?_⟩
   refine Z2b ?_; refine Z3c rfl (Z03 (i := 9) S rfl rfl rfl rfl (dqq rfl) (dqq rfl)) ?_; clear S; intro w S; refine ⟨S.keep [true, true, true, true, true, true, true, true], ?_⟩
   refine Z1y ?_; refine Z0p rfl (fun w' hJ => ⟨rfl⟩) ?_; refine Z1z ?_; refine Z3t ?_; refine Z1x ?_; exact ⟨A2, c2, b12, ⟨rfl, rfl, rfl, rfl, rfl, rfl, rfl, rfl, rfl, rfl, rfl, rfl, rfl, trivial⟩, S⟩
  ·refine Z2i rfl (Z1i S) ?_; rintro _ w ⟨b12, rfl, -, S'⟩; replace S := S'; clear S'; refine ⟨S.keep [true, true, true, true, true, true, true, true], ?_⟩
   refine Z2b ?_; refine Z3q rfl (Z3g rfl rfl rfl rfl rfl) (Z84 z5 (S.rdRow (D := Z0o) (i := 6) rfl) (S.rdRow (D := Z14) (i := 0) rfl) ((S.rdRow (D := Z1d) (i := 1) rfl).cut (lo := 0) (hi := 1) (by decide) (by decide)) (by decide) (by decide) (by decide) (hG.mono S.below)) ?_
   rintro _ w hb ⟨vc, rfl, S'⟩; obtain ⟨A2, c2, hz⟩ := (S'.rdRow (D := Z0o) (i := 0) rfl).len; subst hz; replace S := S.join S'; clear hb S'; refine ⟨S.keep [true, true, true, true, true, true, true, true], ?_⟩
   refine Z1y ?_; refine Z0p rfl (fun w' hJ => ⟨rfl⟩) ?_; refine Z0p rfl (fun w' hJ => Z0y rfl rfl) ?_; refine Z0p rfl (fun w' hJ => Z0y rfl rfl) ?_; refine Z1z ?_
   refine Z2b ?_; refine Z3c rfl (Z03 (i := 8) S rfl rfl rfl rfl (dqq rfl) (dqq rfl)) ?_; clear S; intro w S; refine ⟨S.keep [true, true, true, true, true, true, true, true], ?_⟩
   refine Z1y ?_; refine Z0p rfl (fun w' hJ => ⟨rfl⟩) ?_; refine Z1z ?_; refine Z3t ?_; refine Z1x ?_; exact ⟨A2, c2, b12, ⟨rfl, rfl, rfl, rfl, rfl, rfl, rfl, rfl, rfl, rfl, rfl, rfl, rfl, trivial⟩, S.perm (List.Perm.cons _ (List.Perm.cons _ (List.Perm.cons _ (List.Perm.cons _ (List.Perm.cons _ (List.Perm.cons _ (List.Perm.cons _ (List.Perm.cons _ (List.Perm.swap _ _ _)))))))))⟩
 clear S
 rintro σ w1 ⟨A2, c2, b12, hs, S⟩
 refine Z1o hs ?_
 clear hs
 repeat' (first | refine Z0a ?_ | refine Z02 ?_ | refine Z06 rfl ?_ | refine Z00 rfl (Zgd rfl) ?_)
 refine Z25 rfl (Z3g rfl rfl rfl rfl rfl) (Zfz z6 (Rd.nil _ _) (S.rdRow (D := Z14) (i := 0) rfl) (S.rdRow (D := Z1d) (i := 1) rfl) (by decide) (by decide) (by decide) (hG.mono S.below)) ?_
 rintro _ w hb rfl; replace S := S.grow hb; clear hb
 refine Z56 [(1, .slice (some ⟨k1, 0, none⟩) 1 1), (2, .slice (some ⟨k2, 0, none⟩) 2 2), (3, .slice (some ⟨k3, 0, none⟩) 1 1), (4, v4), (5, .int .i64 0), (6, v6), (7, .int .i64 0), (8, .slice A8 0 c8), (9, .int .i64 0), (10, .pointer (some ⟨b10, 0, none⟩)), (11, .int .i64 0), (12, .pointer (some ⟨b12, 0, none⟩)), (13, .int .i64 0), (72, .tuple #[.agg (bkV 0 (.slice none 0 0) 0).toArray, .int .i64 390])] ⟨rfl, rfl, rfl, rfl, rfl, rfl, rfl, rfl, rfl, rfl, rfl, rfl, rfl, rfl, trivial⟩ ?_
 intro σ hs
 refine Z9c hs ?_
 clear hs
 replace S : St w0 _ [Z16 (Z14) 70 (.slice (some ⟨k1, 0, none⟩) 1 1) exC, Z16 (Z1d) 63 (.slice (some ⟨k2, 0, none⟩) 2 2) exS, Z16 (Z1j) 60 (.slice (some ⟨k3, 0, none⟩) 1 1) exV, Z16 (fInt .i64) 3 v4 [60], Z16 (Z1d) 63 v6 [⟨7, 100⟩], Z16 (Z1d) 63 (.slice A8 0 c8) [], rowP (.slice A1 1 c1) exB, .var b10 27 (bkV 4 (.slice A1 1 c1) 0), rowP (.slice A2 3 c2) exB2, .var b12 27 (bkV 4 (.slice A2 3 c2) 0)] := S
 repeat' (first | refine Z06 rfl ?_ | refine Z00 rfl (Z0y rfl rfl) ?_)
 refine Z0n rfl (Z1i S) ?_
 rintro _ w ⟨b14, rfl, -, S'⟩; replace S := S'; clear S'
 refine Z05 rfl (Z03 (i := 10) S rfl rfl rfl rfl (dqq rfl) (dqq rfl)) ?_
 clear S; intro w S
 repeat' (first | refine Z0a ?_ | refine Z02 ?_ | refine Z08 ?_ | refine Z01 ?_ | refine Z04 rfl ?_)
 refine Z0n rfl (Z2z (D := fInt .i64) [1, 1, 1] (Value.int .i64) S rfl rfl (fun _ => rfl) rfl (by decide) (by decide)) ?_
 rintro _ w ⟨k4, rfl, -, -, S'⟩; replace S := S'; clear S'
 skip
 refine Z25 rfl (Z0w rfl rfl rfl) (Zer z7 (S.rdRow (D := fInt .i64) (i := 11) rfl) (by decide)) ?_
 rintro _ w hb ⟨v16, rfl, hrow⟩; replace S := S.new hb hrow; clear hb hrow
 refine Z56 [(1, .slice (some ⟨k1, 0, none⟩) 1 1), (2, .slice (some ⟨k2, 0, none⟩) 2 2), (3, .slice (some ⟨k3, 0, none⟩) 1 1), (4, v4), (5, .int .i64 0), (6, v6), (7, .int .i64 0), (8, .slice A8 0 c8), (9, .int .i64 0), (10, .pointer (some ⟨b10, 0, none⟩)), (11, .int .i64 0), (12, .pointer (some ⟨b12, 0, none⟩)), (13, .int .i64 0), (15, .int .i64 390), (77, .tuple #[v16, .int .i64 0])] ⟨rfl, rfl, rfl, rfl, rfl, rfl, rfl, rfl, rfl, rfl, rfl, rfl, rfl, rfl, rfl, trivial⟩ ?_
 intro σ hs
 refine Z9c hs ?_
 clear hs
 replace S : St w0 _ [Z16 (Z14) 70 (.slice (some ⟨k1, 0, none⟩) 1 1) exC, Z16 (Z1d) 63 (.slice (some ⟨k2, 0, none⟩) 2 2) exS, Z16 (Z1j) 60 (.slice (some ⟨k3, 0, none⟩) 1 1) exV, Z16 (fInt .i64) 3 v4 [60], Z16 (Z1d) 63 v6 [⟨7, 100⟩], Z16 (Z1d) 63 (.slice A8 0 c8) [], rowP (.slice A1 1 c1) exB, .var b10 27 (bkV 4 (.slice A1 1 c1) 0), rowP (.slice A2 3 c2) exB2, .var b12 27 (bkV 4 (.slice A2 3 c2) 0), .var b14 27 (bkV 0 (.slice none 0 0) 0), Z16 (fInt .i64) 3 (.slice (some ⟨k4, 0, none⟩) 3 3) [1, 1, 1], Z16 (fInt .i64) 3 v16 [4, 3, 3]] := S
 repeat' (first | refine Z0a ?_ | refine Z02 ?_ | refine Z08 ?_ | refine Z01 ?_ | refine Z06 rfl ?_ | refine Z04 rfl ?_ | refine Z00 rfl (Z0y rfl rfl) ?_)
 refine Z0n rfl (Z2z (D := fInt .i64) [0, 2, 1] (Value.int .i64) S rfl rfl (fun _ => rfl) rfl (by decide) (by decide)) ?_
 rintro _ w ⟨k5, rfl, -, -, S'⟩; replace S := S'; clear S'
 skip
 refine Z25 rfl (Z0w rfl rfl rfl) (Zer z8 (S.rdRow (D := fInt .i64) (i := 13) rfl) (by decide)) ?_
 rintro _ w hb ⟨v18, rfl, hrow⟩; replace S := S.new hb hrow; clear hb hrow
 refine Z56 [(1, .slice (some ⟨k1, 0, none⟩) 1 1), (2, .slice (some ⟨k2, 0, none⟩) 2 2), (3, .slice (some ⟨k3, 0, none⟩) 1 1), (4, v4), (5, .int .i64 0), (6, v6), (7, .int .i64 0), (8, .slice A8 0 c8), (9, .int .i64 0), (10, .pointer (some ⟨b10, 0, none⟩)), (11, .int .i64 0), (12, .pointer (some ⟨b12, 0, none⟩)), (13, .int .i64 0), (15, .int .i64 390), (16, v16), (17, .int .i64 0), (82, .tuple #[v18, .int .i64 0])] ⟨rfl, rfl, rfl, rfl, rfl, rfl, rfl, rfl, rfl, rfl, rfl, rfl, rfl, rfl, rfl, rfl, rfl, trivial⟩ ?_
 intro σ hs
 refine Z9c hs ?_
 clear hs
 replace S : St w0 _ [Z16 (Z14) 70 (.slice (some ⟨k1, 0, none⟩) 1 1) exC, Z16 (Z1d) 63 (.slice (some ⟨k2, 0, none⟩) 2 2) exS, Z16 (Z1j) 60 (.slice (some ⟨k3, 0, none⟩) 1 1) exV, Z16 (fInt .i64) 3 v4 [60], Z16 (Z1d) 63 v6 [⟨7, 100⟩], Z16 (Z1d) 63 (.slice A8 0 c8) [], rowP (.slice A1 1 c1) exB, .var b10 27 (bkV 4 (.slice A1 1 c1) 0), rowP (.slice A2 3 c2) exB2, .var b12 27 (bkV 4 (.slice A2 3 c2) 0), .var b14 27 (bkV 0 (.slice none 0 0) 0), Z16 (fInt .i64) 3 (.slice (some ⟨k4, 0, none⟩) 3 3) [1, 1, 1], Z16 (fInt .i64) 3 v16 [4, 3, 3], Z16 (fInt .i64) 3 (.slice (some ⟨k5, 0, none⟩) 3 3) [0, 2, 1], Z16 (fInt .i64) 3 v18 [0, 5, 2]] := S
 repeat' (first | refine Z0a ?_ | refine Z02 ?_ | refine Z08 ?_ | refine Z01 ?_ | refine Z06 rfl ?_ | refine Z04 rfl ?_ | refine Z00 rfl (Z0y rfl rfl) ?_)
 refine Z0n rfl (Z2z (D := fInt .i64) [4, 5] (Value.int .i64) S rfl rfl (fun _ => rfl) rfl (by decide) (by decide)) ?_
 rintro _ w ⟨k6, rfl, -, -, S'⟩; replace S := S'; clear S'
 repeat' ((first | refine Z00 rfl (Ziy rfl) ?_ | refine Z00 rfl (Z4j rfl rfl) ?_))
 refine Z0n rfl (Z2z (D := Z1j) exR (fun y => .agg y.enc.toArray) S rfl rfl (fun _ => rfl) rfl (by decide) (by decide)) ?_
 rintro _ w ⟨k7, rfl, -, -, S'⟩; replace S := S'; clear S'
 skip
 refine Z25 rfl (Z1t rfl rfl rfl rfl) (roy_is z9 (S.rdRow (D := fInt .i64) (i := 15) rfl) (S.rdRow (D := Z1j) (i := 16) rfl) (by decide) (by decide)) ?_
 rintro _ w hb ⟨v20, rfl, hrow⟩; replace S := S.new hb hrow; clear hb hrow
 refine Z56 [(1, .slice (some ⟨k1, 0, none⟩) 1 1), (2, .slice (some ⟨k2, 0, none⟩) 2 2), (3, .slice (some ⟨k3, 0, none⟩) 1 1), (4, v4), (5, .int .i64 0), (6, v6), (7, .int .i64 0), (8, .slice A8 0 c8), (9, .int .i64 0), (10, .pointer (some ⟨b10, 0, none⟩)), (11, .int .i64 0), (12, .pointer (some ⟨b12, 0, none⟩)), (13, .int .i64 0), (15, .int .i64 390), (16, v16), (17, .int .i64 0), (18, v18), (19, .int .i64 0), (92, .tuple #[v20, .int .i64 0])] ⟨rfl, rfl, rfl, rfl, rfl, rfl, rfl, rfl, rfl, rfl, rfl, rfl, rfl, rfl, rfl, rfl, rfl, rfl, rfl, trivial⟩ ?_
 intro σ hs
 refine Z9c hs ?_
 clear hs
 replace S : St w0 _ [Z16 (Z14) 70 (.slice (some ⟨k1, 0, none⟩) 1 1) exC, Z16 (Z1d) 63 (.slice (some ⟨k2, 0, none⟩) 2 2) exS, Z16 (Z1j) 60 (.slice (some ⟨k3, 0, none⟩) 1 1) exV, Z16 (fInt .i64) 3 v4 [60], Z16 (Z1d) 63 v6 [⟨7, 100⟩], Z16 (Z1d) 63 (.slice A8 0 c8) [], rowP (.slice A1 1 c1) exB, .var b10 27 (bkV 4 (.slice A1 1 c1) 0), rowP (.slice A2 3 c2) exB2, .var b12 27 (bkV 4 (.slice A2 3 c2) 0), .var b14 27 (bkV 0 (.slice none 0 0) 0), Z16 (fInt .i64) 3 (.slice (some ⟨k4, 0, none⟩) 3 3) [1, 1, 1], Z16 (fInt .i64) 3 v16 [4, 3, 3], Z16 (fInt .i64) 3 (.slice (some ⟨k5, 0, none⟩) 3 3) [0, 2, 1], Z16 (fInt .i64) 3 v18 [0, 5, 2], Z16 (fInt .i64) 3 (.slice (some ⟨k6, 0, none⟩) 2 2) [4, 5], Z16 (Z1j) 60 (.slice (some ⟨k7, 0, none⟩) 4 4) exR, Z16 (fInt .i64) 3 v20 [3, 6]] := S
 repeat' (first | refine Z0a ?_ | refine Z02 ?_ | refine Z08 ?_ | refine Z01 ?_ | refine Z0k ?_ | refine Z18 rfl ?_ | refine Z06 rfl ?_ | refine Z04 rfl ?_ | (first | refine Z0u rfl rfl ?_ | refine Z0t rfl rfl ?_) | (first | refine Z00 rfl (Z2k rfl rfl) ?_ | refine Z00 rfl (eql84 rfl rfl) ?_) | refine Z00 rfl (Z33 rfl rfl) ?_ | (first | refine Z00 rfl (Z5a rfl rfl rfl rfl rfl rfl) ?_ | refine Z00 rfl (Z7q rfl rfl rfl rfl rfl) ?_) | refine Z00 rfl (Z1w rfl) ?_ | refine Z00 rfl (Z0y rfl rfl) ?_ | refine Z00 rfl (Z0e rfl) ?_ | refine Z00 rfl (Z09 rfl) ?_ | (first | (refine Z00 rfl (Z07 (S.rdRow (D := Z0o) (i := 6) rfl) rfl rfl ?_ ?_) ?_; (first | omega | simp <;> omega); (first | omega | simp <;> omega)) | (refine Z00 rfl (Z07 (S.rdRow (D := Z0o) (i := 8) rfl) rfl rfl ?_ ?_) ?_; (first | omega | simp <;> omega); (first | omega | simp <;> omega))) | (first | (refine Z00 rfl (Z19 (S.rdRow (D := Z0o) (i := 6) rfl) rfl ?_ ?_) ?_; (first | omega | simp <;> omega); (first | omega | simp <;> omega)) | (refine Z00 rfl (Z19 (S.rdRow (D := Z0o) (i := 8) rfl) rfl ?_ ?_) ?_; (first | omega | simp <;> omega); (first | omega | simp <;> omega)) | refine Z00 rfl (Z0b (i := 7) S rfl rfl rfl) ?_ | refine Z00 rfl (Z0b (i := 9) S rfl rfl rfl) ?_))
 refine Z0n rfl (Z2z (D := fInt .i64) [60] (Value.int .i64) S rfl rfl (fun _ => rfl) rfl (by decide) (by decide)) ?_
 rintro _ w ⟨l18, rfl, -, -, S'⟩; replace S := S'; clear S'
 repeat' (first | refine Z06 rfl ?_ | refine Z0u rfl rfl ?_ | refine Z00 rfl (Z2k rfl rfl) ?_ | refine Z00 rfl (Z0e rfl) ?_ | (first | (refine Z0j rfl (Z0w rfl rfl rfl) (Z82 (b := true) (by decide) (S.rdRow (D := fInt .i64) (i := 3) rfl) (S.rdRow (D := fInt .i64) (i := 18) rfl) (by decide) (by decide)) ?_; intro w hb; replace S := S.grow hb; clear hb) | (refine Z0j rfl (Z0w rfl rfl rfl) (Zjw (b := true) (by decide) (S.rdRow (D := Z1d) (i := 4) rfl) ((S.rdRow (D := Z1d) (i := 1) rfl).cut (lo := 0) (hi := 1) (by decide) (by decide)) (by decide) (by decide)) ?_; intro w hb; replace S := S.grow hb; clear hb)) | refine Z00 rfl (Z61 (S.rdRow (D := Z1d) (i := 1) rfl) rfl rfl (by decide) (by decide)) ?_)
 refine Z0n rfl (Z2z (D := fInt .i64) [4, 3, 3] (Value.int .i64) S rfl rfl (fun _ => rfl) rfl (by decide) (by decide)) ?_
 rintro _ w ⟨l19, rfl, -, -, S'⟩; replace S := S'; clear S'
 repeat' (first | refine Z06 rfl ?_ | refine Z0u rfl rfl ?_ | ((refine Z0j rfl (Z0w rfl rfl rfl) (Z82 (b := true) (by decide) (S.rdRow (D := fInt .i64) (i := 12) rfl) (S.rdRow (D := fInt .i64) (i := 19) rfl) (by decide) (by decide)) ?_; intro w hb; replace S := S.grow hb; clear hb)))
 refine Z0n rfl (Z2z (D := fInt .i64) [0, 5, 2] (Value.int .i64) S rfl rfl (fun _ => rfl) rfl (by decide) (by decide)) ?_
 rintro _ w ⟨l20, rfl, -, -, S'⟩; replace S := S'; clear S'
 repeat' (first | refine Z06 rfl ?_ | refine Z0u rfl rfl ?_ | ((refine Z0j rfl (Z0w rfl rfl rfl) (Z82 (b := true) (by decide) (S.rdRow (D := fInt .i64) (i := 14) rfl) (S.rdRow (D := fInt .i64) (i := 20) rfl) (by decide) (by decide)) ?_; intro w hb; replace S := S.grow hb; clear hb)))
 refine Z0n rfl (Z2z (D := fInt .i64) [3, 6] (Value.int .i64) S rfl rfl (fun _ => rfl) rfl (by decide) (by decide)) ?_
 rintro _ w ⟨l21, rfl, -, -, S'⟩; replace S := S'; clear S'
 repeat' (first | refine Z08 ?_ | refine Z01 ?_ | refine Z0r ?_ | refine Z06 rfl ?_ | refine Z04 rfl ?_ | refine Z0u rfl rfl ?_ | (first | (refine Z0j rfl (Z0w rfl rfl rfl) (Z82 (b := true) (by decide) (S.rdRow (D := fInt .i64) (i := 17) rfl) (S.rdRow (D := fInt .i64) (i := 21) rfl) (by decide) (by decide)) ?_; intro w hb; replace S := S.grow hb; clear hb) | (refine Z0j rfl (Z1h rfl rfl) (Z69 z10 (S.rdRow (D := Z1j) (i := 2) rfl) (by decide)) ?_; intro w hb; replace S := S.grow hb; clear hb)))
 exact end1 rfl rfl ⟨rfl, S.below⟩





theorem Zl4 {c n : Int} {w : World} (hc0 : -9223372036854775808 ≤ c) (hc : c ≤ 9223372036854775807) (hn : 0 < n) : CallsV Tryd.prog 15 #[.int .i64 c, .int .i64 n] w (.int .i64 (Z26 c n)) := by
 have S := St.start w
 refine CallsV.mk ?_
 refine Z0l Tryd.func15 rfl (by intro _ h; first | exact nomatch h.1 | (obtain ⟨_, h, _⟩ := h; exact nomatch h)) Tryd.ntmps15 rfl ?_
 repeat' (first | refine Z0a ?_ | refine Z02 ?_ | refine Z08 ?_ | refine Z01 ?_ | refine Z0r ?_ | refine Z0k ?_ | refine Z06 rfl ?_ | refine Z04 rfl ?_ | ((refine Z00 rfl (Z12 rfl rfl ?_ ?_) ?_; (first | omega | simp <;> omega); (first | omega | simp <;> omega))) | ((refine Z00 rfl (Z7i rfl rfl ?_ ?_) ?_; (first | omega | simp <;> omega); (first | omega | simp <;> omega))) | refine Z00 rfl (Z0z rfl rfl) ?_ | ((refine Z00 rfl (Zg2 rfl ?_ ?_) ?_; (first | omega | simp <;> omega); (first | omega | simp <;> omega))) | (refine Z0g rfl (fun h => ?_) (fun h => ?_) <;> (fail_if_success first | have := ntT h | have := ntF h) <;> (try simp only [tdyB] at h) <;> (try (exfalso; omega))))
 ·exact end1 rfl rfl ⟨ri (by unfold Z26; rw [if_pos h]), S.below⟩
 ·exact end1 rfl rfl ⟨ri (by unfold Z26; rw [if_neg (by omega)]), S.below⟩
theorem Zl5 {c n x : Int} {w : World} (hx : Z26 c n = x) (hc0 : -9223372036854775808 ≤ c) (hc : c ≤ 9223372036854775807) (hn : 0 < n) : CallsV Tryd.prog 15 #[.int .i64 c, .int .i64 n] w (.int .i64 x) := by
 rw [← hx]; exact Zl4 hc0 hc hn

theorem Z4e {c n : Int} {w : World} (hc0 : -9223372036854775808 ≤ c) (hc : c ≤ 9223372036854775807) (hn : 0 < n) : CallsV Tryd.prog 40 #[.int .i64 c, .int .i64 n] w (.int .i64 (Z26 c n)) := by
 have S := St.start w
 refine CallsV.mk ?_
 refine Z0l Tryd.func40 rfl (by intro _ h; first | exact nomatch h.1 | (obtain ⟨_, h, _⟩ := h; exact nomatch h)) Tryd.ntmps40 rfl ?_
 repeat' (first | refine Z0a ?_ | refine Z02 ?_ | refine Z08 ?_ | refine Z01 ?_ | refine Z0r ?_ | refine Z0k ?_ | refine Z06 rfl ?_ | refine Z04 rfl ?_ | ((refine Z00 rfl (Z12 rfl rfl ?_ ?_) ?_; (first | omega | simp <;> omega); (first | omega | simp <;> omega))) | ((refine Z00 rfl (Z7i rfl rfl ?_ ?_) ?_; (first | omega | simp <;> omega); (first | omega | simp <;> omega))) | refine Z00 rfl (Z0z rfl rfl) ?_ | ((refine Z00 rfl (Zg2 rfl ?_ ?_) ?_; (first | omega | simp <;> omega); (first | omega | simp <;> omega))) | (refine Z0g rfl (fun h => ?_) (fun h => ?_) <;> (fail_if_success first | have := ntT h | have := ntF h) <;> (try simp only [tdyB] at h) <;> (try (exfalso; omega))))
 ·exact end1 rfl rfl ⟨ri (by unfold Z26; rw [if_pos h]), S.below⟩
 ·exact end1 rfl rfl ⟨ri (by unfold Z26; rw [if_neg (by omega)]), S.below⟩
theorem Z47 {c n : Int} {w : World} (hc0 : -9223372036854775808 ≤ c) (hc : c ≤ 9223372036854775807) (hn : 0 < n) : CallsV Tryd.prog 41 #[.int .i64 c, .int .i64 n] w (.int .i64 (Z26 c n)) := by
 have S := St.start w
 refine CallsV.mk ?_
 refine Z0l Tryd.func41 rfl (by intro _ h; first | exact nomatch h.1 | (obtain ⟨_, h, _⟩ := h; exact nomatch h)) Tryd.ntmps41 rfl ?_
 repeat' (first | refine Z0a ?_ | refine Z02 ?_ | refine Z08 ?_ | refine Z01 ?_ | refine Z0r ?_ | refine Z0k ?_ | refine Z06 rfl ?_ | refine Z04 rfl ?_ | ((refine Z00 rfl (Z12 rfl rfl ?_ ?_) ?_; (first | omega | simp <;> omega); (first | omega | simp <;> omega))) | ((refine Z00 rfl (Z7i rfl rfl ?_ ?_) ?_; (first | omega | simp <;> omega); (first | omega | simp <;> omega))) | refine Z00 rfl (Z0z rfl rfl) ?_ | ((refine Z00 rfl (Zg2 rfl ?_ ?_) ?_; (first | omega | simp <;> omega); (first | omega | simp <;> omega))) | (refine Z0g rfl (fun h => ?_) (fun h => ?_) <;> (fail_if_success first | have := ntT h | have := ntF h) <;> (try simp only [tdyB] at h) <;> (try (exfalso; omega))))
 ·exact end1 rfl rfl ⟨ri (by unfold Z26; rw [if_pos h]), S.below⟩
 ·exact end1 rfl rfl ⟨ri (by unfold Z26; rw [if_neg (by omega)]), S.below⟩
theorem pickD_is {c n x : Int} {w : World} (hx : Z26 c n = x) (hc0 : -9223372036854775808 ≤ c) (hc : c ≤ 9223372036854775807) (hn : 0 < n) : CallsV Tryd.prog 41 #[.int .i64 c, .int .i64 n] w (.int .i64 x) := by
 rw [← hx]; exact Z47 hc0 hc hn


theorem sameP_is {v v2 : Value} {l m : List GPosting} {b : Bool} {w : World} (h : decide (l = m) = b) (hr : Rd Z0o.ty w v l) (hr2 : Rd Z0o.ty w v2 m) (hl : l.length ≤ 1000000000) (hm : m.length ≤ 1000000000) : CallsV Tryd.prog 37 #[v, v2] w (.bool b) := by
 rw [← h]; exact Zi7 hr hr2 hl hm
theorem Zig {acc cl : Int} {L : List GPosting} {v v2 : Value} {w0 : World} (hr : Rd Z0o.ty w0 v L) (hr2 : Rd Z0o.ty w0 v2 L) (hl : L.length ≤ 1000000000) :
  CallsV Tryd.prog 24 #[.agg (bkV acc v cl).toArray, .agg (bkV acc v2 cl).toArray] w0 (.bool true) := by
 have S := St.start w0
 refine CallsV.mk ?_
 refine Z0l Tryd.func24 rfl (by intro _ h; first | exact nomatch h.1 | (obtain ⟨_, h, _⟩ := h; exact nomatch h)) Tryd.ntmps24 rfl ?_
 repeat' (first | refine Z0a ?_ | refine Z02 ?_ | refine Z08 ?_ | refine Z01 ?_ | refine Z0r ?_ | refine Z06 rfl ?_ | refine Z04 rfl ?_ | refine Z0u rfl rfl ?_ | refine Z00 rfl (Z2k rfl rfl) ?_ | refine Z00 rfl (Z09 rfl) ?_ | (first | refine Z00 rfl (Z0b (i := 0) S rfl rfl rfl) ?_ | refine Z00 rfl (Z0b (i := 1) S rfl rfl rfl) ?_) | ((refine Z0j rfl (Z0w rfl rfl rfl) (sameP_is (b := true) (decide_eq_true rfl) (hr.mono S.below) (hr2.mono S.below) hl hl) ?_; intro w hb; replace S := S.grow hb; clear hb)) | (refine Z2g ?_; refine Z0n rfl (Z2h S rfl) ?_; rintro _ w ⟨b, rfl, -, S'⟩; replace S := S'; clear S') | (refine Z13 rfl rfl (fun h => ?_) (fun h => ?_) <;> (fail_if_success first | have := ntT h | have := ntF h) <;> (try simp only [tdyB] at h) <;> (try (exfalso; omega)) <;> (try (exfalso; simp at h; done))))
 all_goals (refine end1 rfl rfl ⟨rb ?_, S.below⟩; simp)

theorem valid_pw {l : List GContract} (h : Z2v l = true) : l.Pairwise fun a b => a.ID ≠ b.ID := by
 rw [List.pairwise_iff_getElem]
 intro i j hi hj hij e
 have hn := Z8j h (i := (j : Int)) (by omega) (by omega)
 rw [Z8g, List.find?_eq_none, Int.toNat_natCast] at hn
 have e1 := Z1u (l := l) (i := (i : Int)) (by omega) (by omega)
 have e2 := Z1u (l := l) (i := (j : Int)) (by omega) (by omega)
 rw [Int.toNat_natCast, List.getElem?_eq_getElem (by omega)] at e1 e2
 have := hn l[i] (List.mem_of_getElem? (i := i) (by rw [List.getElem?_take_of_lt hij, List.getElem?_eq_getElem hi]))
 rw [← Option.some.inj e2] at this
 simp [e] at this
structure CoOk (l : List GContract) : Prop where
 val : Z2v l = true
 len : l.length ≤ 8
 spo : ∀ c ∈ l, 0 ≤ c.Sponsor ∧ c.Sponsor ≤ 3
theorem CoOk.id {l : List GContract} (h : CoOk l) {c : GContract} (hc : c ∈ l) : 0 ≤ c.ID ∧ c.ID ≤ 99 := by
 have := Z6g h.val hc
 unfold okC okN at this
 simp only [Bool.and_eq_true, decide_eq_true_eq] at this
 omega
theorem CoOk.str {l : List GContract} (h : CoOk l) : strB 6 l = false := by
 unfold strB
 rw [List.any_eq_false]
 intro c hc
 have := h.spo c hc
 simp only [decide_eq_true_eq]
 omega
theorem dueC_rng {l : List GContract} {sp : List GSpot} (h : okI l sp = true) {c : GContract} (hc : c ∈ l) : 0 ≤ dueC (cntS l sp) c ∧ dueC (cntS l sp) c ≤ 60000000 := by
 have h1 := @Z92 (cntS l sp) c.ID
 have h2 := @cntS_len l sp
 have h3 := Z4x (Zec h).2
 exact Zfr (Zbd (Zec h).1 hc) (by omega)
structure Sett (l : List GContract) (f : GContract → Int) (cl : Int) (L : List GPosting) : Prop where
 val : Z2d 6 cl L = true
 ch : ∀ c ∈ l, Ch L c.ID c.Sponsor (f c)
theorem wrap5 : IntKind.i64.wrap ((6 : Int) - 1) = 5 := Z57 (by decide) (by decide)
theorem Sett.next {l : List GContract} {g : GContract → Int} {cl day : Int} {L : List GPosting} {sp : List GSpot} (h : Sett l g cl L) (hl : CoOk l) (hok : okI l sp = true) (hlen : L.length ≤ 100) (hcl : 30 * cl ≤ day) (hd : 0 ≤ day ∧ day ≤ 359) (hday : ∀ q ∈ L, q.Day ≤ day) :
  ∃ E, setI 6 cl L l sp day = some (L ++ E) ∧ E.length ≤ 16 ∧ (∀ q ∈ E, q.Day = day) ∧ ((∀ c ∈ l, g c = dueC (cntS l sp) c) → E = []) ∧ Sett l (dueC (cntS l sp)) cl (L ++ E) := by
 have hv := h.val
 unfold Z2d at hv
 rw [wrap5, Bool.and_eq_true] at hv
 have hll := hl.len
 obtain ⟨E, e1, e2, e3, e4, e5, e6, _⟩ := Zkw (f := dueC (cntS l sp)) (g := g) wrap5 hv.2 hcl hd l L hv.1 (by omega) hday (valid_pw hl.val) (fun c hc => ⟨by have := hl.id hc; omega, by have := hl.spo c hc; omega, by have := dueC_rng hok hc; omega⟩) h.ch
 refine ⟨E, ?_, by omega, e3, e4, ?_, e6⟩
 ·unfold setI
  rw [hok, h.val, hl.str, Bool.not_false, Bool.and_true, Bool.and_true, if_pos rfl, e1]
 ·unfold Z2d; rw [wrap5, e5, hv.2]; rfl
def dF (l : List GContract) (sp : List GSpot) (out : List Int) (i k : Int) (j : Nat) : Int :=
 if (j : Int) < i then dueC (spAt sp out) (nth l (j : Int)) else if (j : Int) = i then (nth l (j : Int)).Price * cntC (spAt sp (out.take k.toNat)) (nth l (j : Int)).ID else 0
theorem dF_next {l : List GContract} {sp : List GSpot} {out : List Int} {i : Int} : dF l sp out i out.length = dF l sp out (i + 1) 0 := by
 funext j
 unfold dF
 by_cases h1 : (j : Int) < i
 ·rw [if_pos h1, if_pos (by omega)]
 ·rw [if_neg h1]
  by_cases h2 : (j : Int) = i
  ·rw [if_pos h2, if_pos (by omega), Int.toNat_natCast, List.take_length]; rfl
  ·rw [if_neg h2, if_neg (by omega)]
   by_cases h3 : (j : Int) = i + 1
   ·rw [if_pos h3]; show 0 = _ * 0; rw [Int.mul_zero]
   ·rw [if_neg h3]
theorem dF_start {l : List GContract} {sp : List GSpot} {out : List Int} {n : Nat} : List.replicate n (0 : Int) = tab (dF l sp out 0 0) n := Za8 fun k hk => by
 unfold dF
 rw [if_neg (by omega)]
 by_cases h : (k : Int) = 0
 ·rw [if_pos h]; show _ * 0 = _; rw [Int.mul_zero]
 ·rw [if_neg h]
theorem dF_at {l : List GContract} {sp : List GSpot} {out : List Int} {i k : Int} {n : Nat} (h0 : 0 ≤ i) (hi : i < n) : nth (tab (dF l sp out i k) n) i = (nth l i).Price * cntC (spAt sp (out.take k.toNat)) (nth l i).ID := by
 rw [Z3d (i := i.toNat) (by omega) (by omega)]
 unfold dF
 rw [show ((i.toNat : Nat) : Int) = i by omega, if_neg (by omega), if_pos rfl]
theorem dF_put {l : List GContract} {sp : List GSpot} {out : List Int} {i k x : Int} {n : Nat} (h0 : 0 ≤ i) (hi : i < n) (hx : x = (nth l i).Price * cntC (spAt sp (out.take (k + 1).toNat)) (nth l i).ID) : (tab (dF l sp out i k) n).set i.toNat x = tab (dF l sp out i (k + 1)) n := by
 refine Za9 (i := i.toNat) (by omega) (by omega) fun j hj => ?_
 unfold dF
 by_cases e : j = i.toNat
 ·rw [if_pos e, if_neg (by omega), if_pos (by omega), hx, show (j : Int) = i by omega]
 ·rw [if_neg e]
  by_cases h1 : (j : Int) < i
  ·rw [if_pos h1, if_pos h1]
  ·rw [if_neg h1, if_neg h1, if_neg (by omega), if_neg (by omega)]
theorem dF_skip {l : List GContract} {sp : List GSpot} {out : List Int} {i k : Int} (h : cntC (spAt sp (out.take (k + 1).toNat)) (nth l i).ID = cntC (spAt sp (out.take k.toNat)) (nth l i).ID) : dF l sp out i (k + 1) = dF l sp out i k := by
 funext j
 unfold dF
 by_cases h1 : (j : Int) < i
 ·rw [if_pos h1, if_pos h1]
 ·rw [if_neg h1, if_neg h1]
  by_cases h2 : (j : Int) = i
  ·rw [if_pos h2, if_pos h2, h2, h]
  ·rw [if_neg h2, if_neg h2]

abbrev SH := Option Addr × Nat × Nat
def shV (x : SH) : Value := .slice x.1 x.2.1 x.2.2
def fSh : Flat SH := ⟨1, fun x => [shV x], fun _ => rfl⟩

theorem Z9l {n lo hi : Int} {b : Bool} {w : World} (hE : inR n lo hi = b) : CallsV Tryd.prog 74 #[.int .i64 n, .int .i64 lo, .int .i64 hi] w (.bool b) := by
 have S := St.start w
 refine CallsV.mk ?_
 refine Z0l Tryd.func74 rfl (by intro _ h; first | exact nomatch h.1 | (obtain ⟨_, h, _⟩ := h; exact nomatch h)) Tryd.ntmps74 rfl ?_
 repeat' (first | refine Z0a ?_ | refine Z02 ?_ | refine Z08 ?_ | refine Z01 ?_ | refine Z0r ?_ | (refine Z1c ?_; refine Z1p rfl ?_) | refine Z06 rfl ?_ | refine Z04 rfl ?_ | (first | refine Z0u rfl rfl ?_ | refine Z0t rfl rfl ?_) | refine Z00 rfl (Z4m rfl rfl) ?_ | refine Z00 rfl (Z2x rfl rfl) ?_ | (refine Z13 rfl rfl (fun h => ?_) (fun h => ?_) <;> (fail_if_success first | have := ntT h | have := ntF h) <;> (try simp only [tdyB] at h) <;> (try (exfalso; omega))))
 all_goals (refine end1 rfl rfl ⟨rb ?_, S.below⟩; subst hE; simp [inR]; try omega)
theorem Zdi {n lo hi : Int} {w : World} : CallsV Tryd.prog 74 #[.int .i64 n, .int .i64 lo, .int .i64 hi] w (.bool (inR n lo hi)) := Z9l rfl
set_option maxHeartbeats 2000000 in
theorem Zes {p : GPosting} {acc : Int} {w : World} : CallsV Tryd.prog 88 #[.agg p.enc.toArray, .int .i64 acc] w (.bool (fmP p (IntKind.i64.wrap (acc - 1)))) := by
 have S := St.start w
 obtain ⟨a1, ha1⟩ : ∃ a1, IntKind.i64.wrap (acc - 1) = a1 := ⟨_, rfl⟩
 rw [ha1]
 refine CallsV.mk ?_
 refine Z0l Tryd.func88 rfl (by intro _ h; first | exact nomatch h.1 | (obtain ⟨_, h, _⟩ := h; exact nomatch h)) Tryd.ntmps88 rfl ?_
 repeat' (first | refine Z0a ?_ | refine Z02 ?_ | refine Z08 ?_ | refine Z01 ?_ | refine Z0x ?_ | refine Z0r ?_ | refine Z0k ?_ | refine Z0v rfl ?_ | (refine Z1c ?_; refine Z1p rfl ?_) | refine Z06 rfl ?_ | refine Z04 rfl ?_ | (first | refine Z0u rfl rfl ?_ | refine Z0t rfl rfl ?_) | refine Z00 rfl (r_sub rfl rfl) ?_ | refine Z00 rfl (Z2k rfl rfl) ?_ | refine Z00 rfl (Z1w rfl) ?_ | refine Z00 rfl (Z09 rfl) ?_ | refine Z00 rfl (Z0b (i := 0) S rfl rfl rfl) ?_ | ((refine Z0j rfl (Z1t rfl rfl rfl rfl) (Zdi) ?_; intro w hb; replace S := S.grow hb; clear hb)) | (refine Z2g ?_; refine Z0n rfl (Z2h S rfl) ?_; rintro _ w ⟨b, rfl, -, S'⟩; replace S := S'; clear S') | (refine Z13 rfl rfl (fun h => ?_) (fun h => ?_) <;> (fail_if_success first | have := ntT h | have := ntF h) <;> (try simp only [tdyB] at h) <;> (try (exfalso; omega))) | (refine Z0g rfl (fun h => ?_) (fun h => ?_) <;> (fail_if_success first | have := ntT h | have := ntF h) <;> (try simp only [tdyB] at h) <;> (try (exfalso; omega))))
 all_goals
  refine end1 rfl rfl ⟨rb ?_, S.below⟩
  try simp only [ha1] at *
  simp only [inR, decide_eq_true_eq, decide_eq_false_iff_not, Bool.not_eq_true', Bool.not_eq_false'] at *
  symm
  unfold fmP
 all_goals first
  | (rw [decide_eq_false_iff_not]; omega)
  | (rw [decide_eq_true_iff]; omega)
  | (rw [decide_eq_decide]; omega)
theorem Z4y {p : GPosting} {acc : Int} {b : Bool} {w : World} (h : fmP p (IntKind.i64.wrap (acc - 1)) = b) : CallsV Tryd.prog 88 #[.agg p.enc.toArray, .int .i64 acc] w (.bool b) := by rw [← h]; exact Zes
set_option maxHeartbeats 2000000 in
theorem Z9a {acc cl id k : Int} {L : List GPosting} {v : Value} {w0 : World} (h : Z3y L id = k) (hr : Rd Z0o.ty w0 v L) (hl : L.length ≤ 1000000000) :
  CallsV Tryd.prog 59 #[.agg (bkV acc v cl).toArray, .int .i64 id] w0 (.int .i64 k) := by
 have S := St.start w0
 subst h
 unfold Z3y
 obtain ⟨A, c, rfl⟩ := hr.len
 refine CallsV.mk ?_
 refine Z0l Tryd.func59 rfl (by intro _ h; first | exact nomatch h.1 | (obtain ⟨_, h, _⟩ := h; exact nomatch h)) Tryd.ntmps59 rfl ?_
 repeat' (first | refine Z0a ?_ | refine Z02 ?_ | refine Z08 ?_ | refine Z01 ?_ | refine Z0f ?_ | refine Z04 rfl ?_ | ((refine Z00 rfl (Z24 rfl rfl ?_ ?_) ?_; (first | omega | simp <;> omega); (first | omega | simp <;> omega))) | refine Z00 rfl (Z0e rfl) ?_ | refine Z00 rfl (Z09 rfl) ?_ | refine Z00 rfl (Z0b (i := 0) S rfl rfl rfl) ?_ | (refine Z2g ?_; refine Z0n rfl (Z2h S rfl) ?_; rintro _ w ⟨b, rfl, -, S'⟩; replace S := S'; clear S'))
 replace S : St w0 w [.var b 27 (bkV acc (.slice A L.length c) cl)] := S
 refine Z1l (fun m σ w1 => ∃ i : Int, Has σ [(1, .int .i64 id), (2, .pointer (some ⟨b, 0, none⟩)), (5, .int .i64 i)] ∧ St w0 w1 [.var b 27 (bkV acc (.slice A L.length c) cl)] ∧ -1 ≤ i ∧ i < L.length ∧ chg L id (i + 1).toNat = chg L id L.length ∧ m = (i + 1).toNat) L.length ⟨_, ⟨rfl, rfl, rfl, trivial⟩, S, by omega, by omega, by rw [show ((L.length : Int) - 1 + 1).toNat = L.length by omega], by omega⟩ ?_
 clear S
 rintro m σ w1 ⟨i, hs, S, hi0, hi1, hch, hm⟩
 refine Z1o hs ?_
 by_cases hi : 0 ≤ i
 ·rw [show (i + 1).toNat = i.toNat + 1 by omega, chg] at hch
  have hti : ((i.toNat : Nat) : Int) = i := by omega
  have hitE : hitC L id i.toNat = (decide ((nth L i).Kind ≠ 3 ∧ (nth L i).Subject = id) && !((L.drop (i.toNat + 1)).any fun q => decide (q.Kind = 3 ∧ q.Of = i))) := by unfold hitC; rw [hti]
  by_cases h1 : (nth L i).Kind ≠ 3 ∧ (nth L i).Subject = id
  ·rw [decide_eq_true h1, Bool.true_and] at hitE
   repeat' (first | refine Z0a ?_ | refine Z02 ?_ | refine Z08 ?_ | refine Z01 ?_ | refine Z0k ?_ | refine Z0f ?_ | refine Z06 rfl ?_ | refine Z04 rfl ?_ | refine Z0t rfl rfl ?_ | ((refine Z00 rfl (Z12 rfl rfl ?_ ?_) ?_; (first | omega | simp <;> omega); (first | omega | simp <;> omega))) | refine Z00 rfl (Z2k rfl rfl) ?_ | refine Z00 rfl (Z33 rfl rfl) ?_ | refine Z00 rfl (Z2x rfl rfl) ?_ | (first | refine Z00 rfl (Z09 rfl) ?_ | refine Z00 rfl (Z1g rfl) ?_) | ((refine Z00 rfl (Z07 (hr.mono S.below) rfl rfl ?_ ?_) ?_; (first | omega | simp <;> omega); (first | omega | simp <;> omega))) | (first | (refine Z00 rfl (Z0i (hr.mono S.below) rfl ?_ ?_ rfl) ?_; (first | omega | simp <;> omega); (first | omega | simp <;> omega)) | (refine Z00 rfl (Z11 (hr.mono S.below) rfl ?_ ?_ rfl) ?_; (first | omega | simp <;> omega); (first | omega | simp <;> omega)) | refine Z00 rfl (Z0b (i := 0) S rfl rfl rfl) ?_) | (refine Z13 rfl rfl (fun h => ?_) (fun h => ?_) <;> (fail_if_success first | have := ntT h | have := ntF h) <;> (try simp only [tdyB] at h) <;> (try (exfalso; omega)) <;> (try (exfalso; omega; done))) | (refine Z0g rfl (fun h => ?_) (fun h => ?_) <;> (fail_if_success first | have := ntT h | have := ntF h) <;> (try simp only [tdyB] at h) <;> (try (exfalso; omega)) <;> (try (exfalso; omega; done))))
   refine Z1l (fun m σ w1 => ∃ (k : Int) (bb : Bool), Has σ [(1, .int .i64 id), (2, .pointer (some ⟨b, 0, none⟩)), (5, .int .i64 i), (6, .bool bb), (7, .int .i64 k)] ∧ St w0 w1 [.var b 27 (bkV acc (.slice A L.length c) cl)] ∧ i + 1 ≤ k ∧ k ≤ L.length ∧ (((L.take k.toNat).drop (i.toNat + 1)).any fun q => decide (q.Kind = 3 ∧ q.Of = i)) = !bb ∧ m = L.length - k.toNat) (L.length - (i + 1).toNat) ⟨i + 1, true, ⟨rfl, rfl, rfl, rfl, rfl, trivial⟩, S, by omega, by omega, by rw [List.drop_eq_nil_of_le (by rw [List.length_take]; omega)]; rfl, by omega⟩ ?_
   clear S hs
   rintro m' σ w1 ⟨k, bb, hs, S, hk0, hk1, hbb, hm'⟩
   refine Z1o hs ?_
   by_cases hk : k < L.length
   ·have hst : ((L.take (k + 1).toNat).drop (i.toNat + 1)).any (fun q => decide (q.Kind = 3 ∧ q.Of = i)) = (((L.take k.toNat).drop (i.toNat + 1)).any (fun q => decide (q.Kind = 3 ∧ q.Of = i)) || decide ((nth L k).Kind = 3 ∧ (nth L k).Of = i)) := by
     rw [show (k + 1).toNat = k.toNat + 1 by omega, List.take_add_one, Z1u (by omega) hk, Option.toList_some, List.drop_append_of_le_length (by rw [List.length_take]; omega), List.any_append]; simp
    cases bb with
    | false =>
     rw [hbb, Bool.not_false, Bool.true_or] at hst
     repeat' (first | refine Z0a ?_ | refine Z02 ?_ | refine Z08 ?_ | refine Z01 ?_ | refine Z0h ?_ | refine Z0k ?_ | refine Z0f ?_ | (refine Z1c ?_; refine Z1p rfl ?_) | refine Z06 rfl ?_ | refine Z04 rfl ?_ | refine Z0t rfl rfl ?_ | ((refine Z00 rfl (Z12 rfl rfl ?_ ?_) ?_; (first | omega | simp <;> omega); (first | omega | simp <;> omega))) | refine Z00 rfl (Z0z rfl rfl) ?_ | refine Z00 rfl (Z0e rfl) ?_ | refine Z00 rfl (Z09 rfl) ?_ | refine Z00 rfl (Z0b (i := 0) S rfl rfl rfl) ?_ | (refine Z0g rfl (fun h => ?_) (fun h => ?_) <;> (fail_if_success first | have := ntT h | have := ntF h) <;> (try simp only [tdyB] at h) <;> (try (exfalso; omega)) <;> (try (exfalso; omega; done))))
     refine ⟨⟨_, ?_, k + 1, false, ⟨rfl, rfl, rfl, rfl, rfl, trivial⟩, S, by omega, by omega, by rw [hst]; rfl, rfl⟩⟩
     omega
    | true =>
     rw [hbb, Bool.not_true, Bool.false_or] at hst
     repeat' (first | refine Z0a ?_ | refine Z02 ?_ | refine Z08 ?_ | refine Z01 ?_ | refine Z0h ?_ | refine Z0k ?_ | refine Z0f ?_ | (refine Z1c ?_; refine Z1p rfl ?_) | refine Z06 rfl ?_ | refine Z04 rfl ?_ | (first | refine Z0u rfl rfl ?_ | refine Z0t rfl rfl ?_) | ((refine Z00 rfl (Z12 rfl rfl ?_ ?_) ?_; (first | omega | simp <;> omega); (first | omega | simp <;> omega))) | refine Z00 rfl (Z33 rfl rfl) ?_ | refine Z00 rfl (Z0z rfl rfl) ?_ | refine Z00 rfl (Z0e rfl) ?_ | (first | refine Z00 rfl (Z09 rfl) ?_ | refine Z00 rfl (Z1g rfl) ?_) | ((refine Z00 rfl (Z07 (hr.mono S.below) rfl rfl ?_ ?_) ?_; (first | omega | simp <;> omega); (first | omega | simp <;> omega))) | (first | (refine Z00 rfl (Z0i (hr.mono S.below) rfl ?_ ?_ rfl) ?_; (first | omega | simp <;> omega); (first | omega | simp <;> omega)) | (refine Z00 rfl (Z11 (hr.mono S.below) rfl ?_ ?_ rfl) ?_; (first | omega | simp <;> omega); (first | omega | simp <;> omega)) | refine Z00 rfl (Z0b (i := 0) S rfl rfl rfl) ?_) | (refine Z13 rfl rfl (fun h => ?_) (fun h => ?_) <;> (fail_if_success first | have := ntT h | have := ntF h) <;> (try simp only [tdyB] at h) <;> (try (exfalso; omega)) <;> (try (exfalso; omega; done))) | (refine Z0g rfl (fun h => ?_) (fun h => ?_) <;> (fail_if_success first | have := ntT h | have := ntF h) <;> (try simp only [tdyB] at h) <;> (try (exfalso; omega)) <;> (try (exfalso; omega; done))))
     all_goals
      refine ⟨⟨_, ?_, k + 1, _, ⟨rfl, rfl, rfl, rfl, rfl, trivial⟩, S, by omega, by omega, by rw [hst]; simp_all, rfl⟩⟩
      omega
   ·have ek : L.take k.toNat = L := List.take_of_length_le (by omega)
    rw [ek] at hbb
    rw [hbb, Bool.not_not] at hitE
    cases bb with
    | false =>
     rw [hitE, if_neg (by simp)] at hch
     repeat' (first | refine Z0a ?_ | refine Z02 ?_ | refine Z08 ?_ | refine Z01 ?_ | refine Z0h ?_ | refine Z0s ?_ | refine Z15 ?_ | refine Z0k ?_ | refine Z1b ?_ | refine Z18 rfl ?_ | refine Z06 rfl ?_ | refine Z04 rfl ?_ | ((refine Z00 rfl (Z24 rfl rfl ?_ ?_) ?_; (first | omega | simp <;> omega); (first | omega | simp <;> omega))) | refine Z00 rfl (Z0z rfl rfl) ?_ | refine Z00 rfl (Z0e rfl) ?_ | refine Z00 rfl (Z09 rfl) ?_ | refine Z00 rfl (Z0b (i := 0) S rfl rfl rfl) ?_ | (refine Z0g rfl (fun h => ?_) (fun h => ?_) <;> (fail_if_success first | have := ntT h | have := ntF h) <;> (try simp only [tdyB] at h) <;> (try (exfalso; omega)) <;> (try (exfalso; omega; done))))
     refine ⟨⟨_, ?_, i - 1, ⟨rfl, rfl, rfl, trivial⟩, S, by omega, by omega, by rw [show (i - 1 + 1).toNat = i.toNat by omega]; exact hch, rfl⟩⟩
     omega
    | true =>
     rw [hitE, if_pos rfl] at hch
     repeat' (first | refine Z0a ?_ | refine Z02 ?_ | refine Z08 ?_ | refine Z01 ?_ | refine Z0s ?_ | refine Z15 ?_ | refine Z0x ?_ | refine Z27 ?_ | refine Z0r ?_ | refine Z1b ?_ | refine Z0v rfl ?_ | refine Z06 rfl ?_ | refine Z04 rfl ?_ | refine Z00 rfl (Z0z rfl rfl) ?_ | refine Z00 rfl (Z0e rfl) ?_ | refine Z00 rfl (Z09 rfl) ?_ | refine Z00 rfl (Z0b (i := 0) S rfl rfl rfl) ?_ | (refine Z0g rfl (fun h => ?_) (fun h => ?_) <;> (fail_if_success first | have := ntT h | have := ntF h) <;> (try simp only [tdyB] at h) <;> (try (exfalso; omega)) <;> (try (exfalso; omega; done))))
     exact end1 rfl rfl ⟨ri (by rw [← hch]; omega), S.below⟩
  ·rw [decide_eq_false h1, Bool.false_and] at hitE
   rw [hitE, if_neg (by simp)] at hch
   repeat' (first | refine Z0a ?_ | refine Z02 ?_ | refine Z08 ?_ | refine Z01 ?_ | refine Z0s ?_ | refine Z15 ?_ | refine Z0k ?_ | refine Z1b ?_ | refine Z0f ?_ | refine Z0v rfl ?_ | (refine Z1c ?_; refine Z1p rfl ?_) | refine Z06 rfl ?_ | refine Z04 rfl ?_ | (first | refine Z0u rfl rfl ?_ | refine Z0t rfl rfl ?_) | ((refine Z00 rfl (Z24 rfl rfl ?_ ?_) ?_; (first | omega | simp <;> omega); (first | omega | simp <;> omega))) | refine Z00 rfl (Z2k rfl rfl) ?_ | refine Z00 rfl (Z33 rfl rfl) ?_ | refine Z00 rfl (Z2x rfl rfl) ?_ | (first | refine Z00 rfl (Z09 rfl) ?_ | refine Z00 rfl (Z1g rfl) ?_) | ((refine Z00 rfl (Z07 (hr.mono S.below) rfl rfl ?_ ?_) ?_; (first | omega | simp <;> omega); (first | omega | simp <;> omega))) | (first | (refine Z00 rfl (Z0i (hr.mono S.below) rfl ?_ ?_ rfl) ?_; (first | omega | simp <;> omega); (first | omega | simp <;> omega)) | (refine Z00 rfl (Z11 (hr.mono S.below) rfl ?_ ?_ rfl) ?_; (first | omega | simp <;> omega); (first | omega | simp <;> omega)) | refine Z00 rfl (Z0b (i := 0) S rfl rfl rfl) ?_) | (refine Z13 rfl rfl (fun h => ?_) (fun h => ?_) <;> (fail_if_success first | have := ntT h | have := ntF h) <;> (try simp only [tdyB] at h) <;> (try (exfalso; omega)) <;> (try (exfalso; omega; done))) | (refine Z0g rfl (fun h => ?_) (fun h => ?_) <;> (fail_if_success first | have := ntT h | have := ntF h) <;> (try simp only [tdyB] at h) <;> (try (exfalso; omega)) <;> (try (exfalso; omega; done))))
   all_goals
    refine ⟨⟨_, ?_, i - 1, ⟨rfl, rfl, rfl, trivial⟩, S, by omega, by omega, by rw [show (i - 1 + 1).toNat = i.toNat by omega]; exact hch, rfl⟩⟩
    omega
 ·rw [show (i + 1).toNat = 0 by omega] at hch
  repeat' (first | refine Z0a ?_ | refine Z02 ?_ | refine Z08 ?_ | refine Z01 ?_ | refine Z0s ?_ | refine Z15 ?_ | refine Z0r ?_ | refine Z1b ?_ | refine Z06 rfl ?_ | refine Z04 rfl ?_ | refine Z00 rfl (Z2x rfl rfl) ?_ | (refine Z0g rfl (fun h => ?_) (fun h => ?_) <;> (fail_if_success first | have := ntT h | have := ntF h) <;> (try simp only [tdyB] at h) <;> (try (exfalso; omega)) <;> (try (exfalso; omega; done))))
  exact end1 rfl rfl ⟨ri hch, S.below⟩

def tabB (f : Nat → Bool) (n : Nat) : List Bool := (List.range n).map f
theorem Zhe {f : Nat → Bool} {n : Nat} : (tabB f n).length = n := by simp [tabB]
theorem tabB_nth {f : Nat → Bool} {n : Nat} {j : Int} (h0 : 0 ≤ j) (hj : j < n) : nth (tabB f n) j = f j.toNat := by
 have h := Z1u (l := tabB f n) (i := j) h0 (by rw [Zhe]; exact hj)
 unfold tabB at h
 rw [List.getElem?_map, List.getElem?_range (by omega)] at h
 exact (Option.some.inj h).symm
theorem tabB_set {f : Nat → Bool} {n : Nat} {j : Int} {b : Bool} (h0 : 0 ≤ j) (hj : j < n) : (tabB f n).set j.toNat b = tabB (fun k => if k = j.toNat then b else f k) n := by
 apply List.ext_getElem?
 intro k
 unfold tabB
 rw [List.getElem?_set]
 by_cases e : j.toNat = k
 ·rw [if_pos e, if_pos (by simp; omega), List.getElem?_map, List.getElem?_range (by omega), Option.map_some, if_pos e.symm]
 ·rw [if_neg e, List.getElem?_map, List.getElem?_map]
  by_cases hk : k < n
  ·rw [List.getElem?_range hk, Option.map_some, Option.map_some, if_neg (fun h => e h.symm)]
  ·rw [List.getElem?_eq_none (by simp; omega)]; rfl
theorem tabB_nil {n : Nat} : List.replicate n false = tabB (bkN []) n := by
 unfold tabB
 rw [show (bkN [] : Nat → Bool) = fun _ => false from rfl]
 simp [List.map_const']
theorem Zet {L : List GPosting} {n : Nat} {j : Int} (h0 : 0 ≤ j) (hj : j < n) (hn : n ≤ L.length) : nth (L.take n) j = nth L j := by
 have h := Z1u (l := L.take n) (i := j) h0 (by rw [List.length_take]; omega)
 rw [List.getElem?_take_of_lt (by omega), Z1u h0 (by omega)] at h
 exact (Option.some.inj h).symm
theorem Zcg {L : List GPosting} {i : Int} (h0 : 0 ≤ i) (hi : i < L.length) : L.take (i + 1).toNat = L.take i.toNat ++ [nth L i] := by
 rw [show (i + 1).toNat = i.toNat + 1 by omega, List.take_add_one, Z1u h0 hi]; rfl
set_option maxRecDepth 20000 in
set_option maxHeartbeats 4000000 in
theorem Z4z {acc cl : Int} {L : List GPosting} {bb : Bool} {v : Value} {w0 : World} (hbb : Z2d acc cl L = bb) (hr : Rd Z0o.ty w0 v L) (hl : L.length ≤ 1000000000) :
  CallsV Tryd.prog 58 #[.agg (bkV acc v cl).toArray] w0 (.bool bb) := by
 have S := St.start w0
 subst hbb
 obtain ⟨A, c, rfl⟩ := hr.len
 obtain ⟨a1, ha1⟩ : ∃ a1, IntKind.i64.wrap (acc - 1) = a1 := ⟨_, rfl⟩
 refine CallsV.mk ?_
 refine Z0l Tryd.func58 rfl (by intro _ h; first | exact nomatch h.1 | (obtain ⟨_, h, _⟩ := h; exact nomatch h)) Tryd.ntmps58 rfl ?_
 cases hA : okAC acc cl with
 | false =>
  have e : Z2d acc cl L = false := by unfold Z2d; rw [hA, Bool.and_false]
  have hA' : ¬ ((2 ≤ acc ∧ acc ≤ 16) ∧ 0 ≤ cl ∧ cl ≤ 12) := fun h => by unfold okAC inR at hA; rw [decide_eq_true h.1, decide_eq_true h.2] at hA; cases hA
  rw [e]
  repeat' (first | refine Z0a ?_ | refine Z02 ?_ | refine Z08 ?_ | refine Z01 ?_ | refine Z0x ?_ | refine Z0r ?_ | refine Z0v rfl ?_ | (refine Z1c ?_; refine Z1p rfl ?_) | refine Z06 rfl ?_ | refine Z04 rfl ?_ | (first | refine Z0u rfl rfl ?_ | refine Z0t rfl rfl ?_) | refine Z00 rfl (Z1w rfl) ?_ | refine Z00 rfl (Z09 rfl) ?_ | refine Z00 rfl (Z0b (i := 0) S rfl rfl rfl) ?_ | ((refine Z0j rfl (Z1t rfl rfl rfl rfl) (Zdi) ?_; intro w hb; replace S := S.grow hb; clear hb)) | (refine Z2g ?_; refine Z0n rfl (Z2h S rfl) ?_; rintro _ w ⟨b, rfl, -, S'⟩; replace S := S'; clear S') | (refine Z13 rfl rfl (fun h => ?_) (fun h => ?_) <;> (fail_if_success first | have := ntT h | have := ntF h) <;> (try simp only [tdyB] at h) <;> (try (exfalso; omega)) <;> (try (exfalso; simp only [inR, decide_eq_true_eq, decide_eq_false_iff_not, Bool.not_eq_true', Bool.not_eq_false', Int.not_lt, Int.not_le] at *; omega; done))))
  all_goals exact end1 rfl rfl ⟨rfl, S.below⟩
 | true =>
 have hA' : (2 ≤ acc ∧ acc ≤ 16) ∧ 0 ≤ cl ∧ cl ≤ 12 := by unfold okAC at hA; rw [Bool.and_eq_true] at hA; exact ⟨of_decide_eq_true hA.1, of_decide_eq_true hA.2⟩
 have i1 : inR acc 2 16 = true := decide_eq_true hA'.1
 have i2 : inR cl 0 12 = true := decide_eq_true hA'.2
 by_cases hlen : L.length ≤ 200
 ·have eV : Z2d acc cl L = allT a1 L := by unfold Z2d; rw [hA, Bool.and_true, ha1]
  rw [eV]
  repeat' (first | refine Z0a ?_ | refine Z02 ?_ | refine Z08 ?_ | refine Z01 ?_ | refine Z0k ?_ | refine Z06 rfl ?_ | refine Z04 rfl ?_ | refine Z0t rfl rfl ?_ | refine Z00 rfl (Z2o rfl rfl) ?_ | refine Z00 rfl (Z1w rfl) ?_ | refine Z00 rfl (Z0e rfl) ?_ | refine Z00 rfl (Z09 rfl) ?_ | refine Z00 rfl (Z0b (i := 0) S rfl rfl rfl) ?_ | (first | (refine Z0j rfl (Z1t rfl rfl rfl rfl) (Z9l i1) ?_; intro w hb; replace S := S.grow hb; clear hb) | (refine Z0j rfl (Z1t rfl rfl rfl rfl) (Z9l i2) ?_; intro w hb; replace S := S.grow hb; clear hb)) | (refine Z2g ?_; refine Z0n rfl (Z2h S rfl) ?_; rintro _ w ⟨b, rfl, -, S'⟩; replace S := S'; clear S') | (refine Z0g rfl (fun h => ?_) (fun h => ?_) <;> (fail_if_success first | have := ntT h | have := ntF h) <;> (try simp only [tdyB] at h) <;> (try (exfalso; omega)) <;> (try (exfalso; omega; done))))
  replace S : St w0 w [.var b 27 (bkV acc (.slice A L.length c) cl)] := S
  refine Z0n rfl (Z5o (D := Z4q) (m := L.length) false S rfl rfl rfl (by decide) (by omega) (by omega)) ?_
  rintro vb w ⟨b3, hvb, -, S'⟩; replace S := S'; clear S'
  rw [tabB_nil] at S
  repeat' (first | refine Z0a ?_ | refine Z02 ?_ | refine Z08 ?_ | refine Z01 ?_ | refine Z0f ?_ | refine Z04 rfl ?_)
  refine Z1l (fun m σ w1 => ∃ i : Int, Has σ [(1, .pointer (some ⟨b, 0, none⟩)), (3, vb), (4, .int .i64 i)] ∧ St w0 w1 [.var b 27 (bkV acc (.slice A L.length c) cl), Z16 Z4q 4 vb (tabB (bkN (L.take i.toNat)) L.length)] ∧ 0 ≤ i ∧ i ≤ L.length ∧ (∀ j : Int, 0 ≤ j → j < i → Z3e a1 (L.take j.toNat) (nth L j) = true) ∧ m = L.length - i.toNat) L.length ⟨0, ⟨rfl, rfl, rfl, trivial⟩, S, by omega, by omega, fun j p q => by omega, by omega⟩ ?_
  clear S
  rintro m σ w1 ⟨i, hs, S, hi0, hi1, hall, hm⟩
  refine Z1o hs ?_
  by_cases hi : i < L.length
  ·obtain ⟨p, hp⟩ : ∃ p, nth L i = p := ⟨_, rfl⟩
   have htl : (L.take i.toNat).length = i.toNat := by rw [List.length_take]; omega
   have eT : Z3e a1 (L.take i.toNat) (nth L i) = (fmP (nth L i) a1 && (Zel (L.take i.toNat) (nth L i) && Z9p (L.take i.toNat) (nth L i))) := by unfold Z3e; rw [htl, decide_eq_true (by omega)]; rfl
   have hno : Z3e a1 (L.take i.toNat) (nth L i) = false → allT a1 L = false := fun h => Zko hi0 hi h
   cases hf : fmP (nth L i) a1 with
   | false =>
    rw [hno (by rw [eT, hf]; rfl)]
    repeat' (first | refine Z0a ?_ | refine Z02 ?_ | refine Z08 ?_ | refine Z01 ?_ | refine Z0x ?_ | refine Z27 ?_ | refine Z0r ?_ | refine Z0k ?_ | refine Z0f ?_ | refine Z0v rfl ?_ | refine Z1s (by kernel_rfl) (by kernel_rfl) ?_ | (refine Z1q ?_; intro w hb; replace S := S.grow hb; clear hb) | refine Z06 rfl ?_ | refine Z04 rfl ?_ | refine Z00 rfl (Z0z rfl rfl) ?_ | refine Z00 rfl (Z0e rfl) ?_ | refine Z00 rfl (Z09 rfl) ?_ | ((refine Z00 rfl (Z07 (hr.mono S.below) rfl rfl ?_ ?_) ?_; (first | omega | simp <;> omega); (first | omega | simp <;> omega))) | (first | (refine Z00 rfl (Z19 (hr.mono S.below) rfl ?_ ?_) ?_; (first | omega | simp <;> omega); (first | omega | simp <;> omega)) | refine Z00 rfl (Z0b (i := 0) S rfl rfl rfl) ?_) | (refine Z2y ?_; refine Z5l rfl ?_) | (refine Z1e ?_; refine Z1r rfl ?_) | (refine Z2a ?_; refine Z2j rfl rfl ?_) | (refine Z4o ?_; refine Z0c rfl (fun w' hb => Z1w rfl) ?_) | (refine Z10 ?_; refine Z0c rfl (fun w' hb => Z09 rfl) ?_) | (refine Z1f ?_; first | refine Z0c rfl (fun w' hb => Z0b (i := 0) (S.grow hb) rfl rfl rfl) ?_ | refine Z0c rfl (fun w' hb => Z0m (i := 2) (S.grow hb) rfl rfl rfl rfl) ?_) | (refine Z1v ?_; refine Z20 rfl (fun w' hb => Z0w rfl rfl rfl) (fun w' hb => Z4y (ha1 ▸ hf)) ?_) | (refine Z0n rfl (Z1i S) ?_; rintro _ w ⟨b, rfl, -, S'⟩; replace S := S'; clear S') | (first | (refine Z05 rfl (Z03 (i := 0) S rfl rfl rfl rfl (dqq rfl) (dqq rfl)) ?_; clear S; intro w S) | (refine Z05 rfl (Z03 (i := 1) S rfl rfl rfl rfl (dqq rfl) (dqq rfl)) ?_; clear S; intro w S) | (refine Z05 rfl (Z03 (i := 2) S rfl rfl rfl rfl (dqq rfl) (dqq rfl)) ?_; clear S; intro w S)) | (refine Z0g rfl (fun h => ?_) (fun h => ?_) <;> (fail_if_success first | have := ntT h | have := ntF h) <;> (try simp only [tdyB] at h) <;> (try (exfalso; omega)) <;> (try (exfalso; omega; done))))
    all_goals exact end1 rfl rfl ⟨rfl, S.below⟩
   | true =>
   have hdE : Zel (L.take i.toNat) (nth L i) = decide (i = 0 ∨ (nth L (i - 1)).Day ≤ (nth L i).Day) := by
    unfold Zel
    rw [htl, decide_eq_decide, show ((i.toNat : Nat) : Int) = i by omega]
    by_cases e : i = 0
    ·simp [e]
    ·rw [Zet (by omega) (by omega) (by omega)]; omega
   cases hd : Zel (L.take i.toNat) (nth L i) with
   | false =>
    rw [hno (by rw [eT, hd]; simp)]
    have hd' := of_decide_eq_false (hdE ▸ hd)
    repeat' (first | refine Z0a ?_ | refine Z02 ?_ | refine Z08 ?_ | refine Z01 ?_ | refine Z0x ?_ | refine Z27 ?_ | refine Z0r ?_ | refine Z0k ?_ | refine Z0f ?_ | refine Z1s (by kernel_rfl) (by kernel_rfl) ?_ | (refine Z1q ?_; intro w hb; replace S := S.grow hb; clear hb) | refine Z06 rfl ?_ | refine Z04 rfl ?_ | refine Z00 rfl (Z0z rfl rfl) ?_ | refine Z00 rfl (Z0e rfl) ?_ | refine Z00 rfl (Z09 rfl) ?_ | ((refine Z00 rfl (Z07 (hr.mono S.below) rfl rfl ?_ ?_) ?_; (first | omega | simp <;> omega); (first | omega | simp <;> omega))) | (first | (refine Z00 rfl (Z19 (hr.mono S.below) rfl ?_ ?_) ?_; (first | omega | simp <;> omega); (first | omega | simp <;> omega)) | refine Z00 rfl (Z0b (i := 0) S rfl rfl rfl) ?_) | (refine Z1e ?_; refine Z1r rfl ?_) | (refine Z2a ?_; first | refine Z2j rfl rfl ?_ | refine Z31 rfl rfl ?_) | (refine Z2f ?_; (refine Z0c rfl (fun w' hb => Z24 rfl rfl ?_ ?_) ?_; (first | omega | simp <;> omega); (first | omega | simp <;> omega))) | (refine Z2l ?_; refine Z0c rfl (fun w' hb => Z0z rfl rfl) ?_) | (refine Z2w ?_; refine Z0c rfl (fun w' hb => Z2o rfl rfl) ?_) | (refine Z4o ?_; refine Z0c rfl (fun w' hb => Z1w rfl) ?_) | (refine Z10 ?_; first | refine Z0c rfl (fun w' hb => Z09 rfl) ?_ | refine Z0c rfl (fun w' hb => Z1g rfl) ?_) | (refine Z0q ?_; (refine Z0c rfl (fun w' hb => Z07 (hr.mono (S.grow hb).below) rfl rfl ?_ ?_) ?_; (first | omega | simp <;> omega); (first | omega | simp <;> omega))) | (refine Z1f ?_; first | (refine Z0c rfl (fun w' hb => Z11 (hr.mono (S.grow hb).below) rfl ?_ ?_ rfl) ?_; (first | omega | simp <;> omega); (first | omega | simp <;> omega)) | refine Z0c rfl (fun w' hb => Z0b (i := 0) (S.grow hb) rfl rfl rfl) ?_ | refine Z0c rfl (fun w' hb => Z0b (i := 2) (S.grow hb) rfl rfl rfl) ?_ | refine Z0c rfl (fun w' hb => Z0m (i := 2) (S.grow hb) rfl rfl rfl rfl) ?_) | (refine Z1v ?_; refine Z20 rfl (fun w' hb => Z0w rfl rfl rfl) (fun w' hb => Z4y (ha1 ▸ hf)) ?_) | (refine Z0n rfl (Z1i S) ?_; rintro _ w ⟨b, rfl, -, S'⟩; replace S := S'; clear S') | (first | (refine Z05 rfl (Z03 (i := 0) S rfl rfl rfl rfl (dqq rfl) (dqq rfl)) ?_; clear S; intro w S) | (refine Z05 rfl (Z03 (i := 1) S rfl rfl rfl rfl (dqq rfl) (dqq rfl)) ?_; clear S; intro w S) | (refine Z05 rfl (Z03 (i := 2) S rfl rfl rfl rfl (dqq rfl) (dqq rfl)) ?_; clear S; intro w S)) | (refine Z21 rfl rfl (fun h => ?_) (fun h => ?_) <;> (fail_if_success first | have := ntT h | have := ntF h) <;> (try simp only [tdyB] at h) <;> (try (exfalso; omega)) <;> (try (exfalso; omega; done))) | (refine Z0g rfl (fun h => ?_) (fun h => ?_) <;> (fail_if_success first | have := ntT h | have := ntF h) <;> (try simp only [tdyB] at h) <;> (try (exfalso; omega)) <;> (try (exfalso; omega; done))))
    all_goals exact end1 rfl rfl ⟨rfl, S.below⟩
   | true =>
   have hd' := of_decide_eq_true (hdE ▸ hd)
   rw [hf, hd, Bool.true_and, Bool.true_and] at eT
   have hfo := Zkk hf
   have hfk := of_decide_eq_true hf
   by_cases hk : (nth L i).Kind = 3
   ·have hkn : decide ((nth L i).Kind ≠ 3) = false := decide_eq_false (fun h => h hk)
    unfold Z9p at eT
    rw [hkn, Bool.false_or, htl, show ((i.toNat : Nat) : Int) = i by omega] at eT
    by_cases ho : (nth L i).Of < i
    ·rw [decide_eq_true ho, Bool.true_and, Zet (by omega) (by omega) (by omega)] at eT
     have hbn := tabB_nth (f := bkN (L.take i.toNat)) (n := L.length) (j := (nth L i).Of) (by omega) (by omega)
     have hbl := @Zhe (bkN (L.take i.toNat)) L.length
     cases hb : bkN (L.take i.toNat) (nth L i).Of.toNat with
     | true =>
      rw [hno (by rw [eT, hb]; rfl)]
      rw [hb] at hbn
      repeat' (first | refine Z0a ?_ | refine Z02 ?_ | refine Z08 ?_ | refine Z01 ?_ | refine Z0x ?_ | refine Z27 ?_ | refine Z0r ?_ | refine Z0k ?_ | refine Z0f ?_ | refine Z0v rfl ?_ | refine Z1s (by kernel_rfl) (by kernel_rfl) ?_ | (refine Z1q ?_; intro w hb; replace S := S.grow hb; clear hb) | refine Z06 rfl ?_ | refine Z04 rfl ?_ | refine Z0t rfl rfl ?_ | refine Z00 rfl (Z2k rfl rfl) ?_ | refine Z00 rfl (Z0z rfl rfl) ?_ | refine Z00 rfl (Z2x rfl rfl) ?_ | refine Z00 rfl (Z0e rfl) ?_ | refine Z00 rfl (Z09 rfl) ?_ | ((refine Z00 rfl (Z07 (hr.mono S.below) rfl rfl ?_ ?_) ?_; (first | omega | simp <;> omega); (first | omega | simp <;> omega))) | (first | (refine Z00 rfl (Z19 (hr.mono S.below) rfl ?_ ?_) ?_; (first | omega | simp <;> omega); (first | omega | simp <;> omega)) | refine Z00 rfl (Z0b (i := 0) S rfl rfl rfl) ?_ | refine Z00 rfl (Z0b (i := 2) S rfl rfl rfl) ?_) | (refine Z1e ?_; refine Z1r rfl ?_) | (refine Z2a ?_; first | refine Z2j rfl rfl ?_ | refine Z31 rfl rfl ?_) | (refine Z2f ?_; (refine Z0c rfl (fun w' hb => Z24 rfl rfl ?_ ?_) ?_; (first | omega | simp <;> omega); (first | omega | simp <;> omega))) | (refine Z2l ?_; refine Z0c rfl (fun w' hb => Z0z rfl rfl) ?_) | (refine Z2w ?_; refine Z0c rfl (fun w' hb => Z2o rfl rfl) ?_) | (refine Z4o ?_; refine Z0c rfl (fun w' hb => Z1w rfl) ?_) | (refine Z10 ?_; first | refine Z0c rfl (fun w' hb => Z09 rfl) ?_ | refine Z0c rfl (fun w' hb => Z1g rfl) ?_) | (refine Z0q ?_; (refine Z0c rfl (fun w' hb => Z07 (hr.mono (S.grow hb).below) rfl rfl ?_ ?_) ?_; (first | omega | simp <;> omega); (first | omega | simp <;> omega))) | (refine Z1f ?_; first | (refine Z0c rfl (fun w' hb => Z11 (hr.mono (S.grow hb).below) rfl ?_ ?_ rfl) ?_; (first | omega | simp <;> omega); (first | omega | simp <;> omega)) | refine Z0c rfl (fun w' hb => Z0b (i := 0) (S.grow hb) rfl rfl rfl) ?_ | refine Z0c rfl (fun w' hb => Z0b (i := 2) (S.grow hb) rfl rfl rfl) ?_ | refine Z0c rfl (fun w' hb => Z0m (i := 2) (S.grow hb) rfl rfl rfl rfl) ?_) | (refine Z1v ?_; refine Z20 rfl (fun w' hb => Z0w rfl rfl rfl) (fun w' hb => Z4y (ha1 ▸ hf)) ?_) | (refine Z0n rfl (Z1i S) ?_; rintro _ w ⟨b, rfl, -, S'⟩; replace S := S'; clear S') | (first | (refine Z05 rfl (Z03 (i := 0) S rfl rfl rfl rfl (dqq rfl) (dqq rfl)) ?_; clear S; intro w S) | (refine Z05 rfl (Z03 (i := 1) S rfl rfl rfl rfl (dqq rfl) (dqq rfl)) ?_; clear S; intro w S) | (refine Z05 rfl (Z03 (i := 2) S rfl rfl rfl rfl (dqq rfl) (dqq rfl)) ?_; clear S; intro w S)) | refine Z00 (v := .bool true) rfl (Z0i (D := Z4q) (S.rdRow (D := Z4q) (i := 1) rfl) rfl (by omega) (by omega) (by rw [hbn]; rfl)) ?_ | refine Z00 rfl (Z07 (S.rdRow (D := Z4q) (i := 1) rfl) rfl rfl (by omega) (by omega)) ?_ | (refine Z13 rfl rfl (fun h => ?_) (fun h => ?_) <;> (fail_if_success first | have := ntT h | have := ntF h) <;> (try simp only [tdyB] at h) <;> (try (exfalso; omega)) <;> (try (exfalso; omega; done))) | (refine Z21 rfl rfl (fun h => ?_) (fun h => ?_) <;> (fail_if_success first | have := ntT h | have := ntF h) <;> (try simp only [tdyB] at h) <;> (try (exfalso; omega)) <;> (try (exfalso; omega; done))) | (refine Z0g rfl (fun h => ?_) (fun h => ?_) <;> (fail_if_success first | have := ntT h | have := ntF h) <;> (try simp only [tdyB] at h) <;> (try (exfalso; omega)) <;> (try (exfalso; omega; done))))
      all_goals exact end1 rfl rfl ⟨rfl, S.below⟩
     | false =>
      rw [hb] at hbn
      rw [hb, Bool.not_false, Bool.true_and] at eT
      cases hbk : bkP (nth L i) (nth L (nth L i).Of) with
      | false =>
       rw [hno (by rw [eT, hbk])]
       have hbk' := of_decide_eq_false hbk
       repeat' (first | refine Z0a ?_ | refine Z02 ?_ | refine Z08 ?_ | refine Z01 ?_ | refine Z0x ?_ | refine Z27 ?_ | refine Z0r ?_ | refine Z0k ?_ | refine Z0f ?_ | refine Z0v rfl ?_ | refine Z18 rfl ?_ | refine Z1s (by kernel_rfl) (by kernel_rfl) ?_ | (refine Z1q ?_; intro w hb; replace S := S.grow hb; clear hb) | (refine Z1c ?_; refine Z1p rfl ?_) | refine Z06 rfl ?_ | refine Z04 rfl ?_ | (first | refine Z0u rfl rfl ?_ | refine Z0t rfl rfl ?_) | refine Z00 rfl (Z2k rfl rfl) ?_ | refine Z00 rfl (Z33 rfl rfl) ?_ | refine Z00 rfl (Z0z rfl rfl) ?_ | refine Z00 rfl (Z2x rfl rfl) ?_ | refine Z00 rfl (Z0e rfl) ?_ | refine Z00 rfl (Z09 rfl) ?_ | ((refine Z00 rfl (Z07 (hr.mono S.below) rfl rfl ?_ ?_) ?_; (first | omega | simp <;> omega); (first | omega | simp <;> omega))) | (first | (refine Z00 rfl (Z19 (hr.mono S.below) rfl ?_ ?_) ?_; (first | omega | simp <;> omega); (first | omega | simp <;> omega)) | refine Z00 rfl (Z0b (i := 0) S rfl rfl rfl) ?_ | refine Z00 rfl (Z0b (i := 2) S rfl rfl rfl) ?_ | refine Z00 rfl (Z0b (i := 3) S rfl rfl rfl) ?_) | (refine Z1e ?_; refine Z1r rfl ?_) | (refine Z2a ?_; first | refine Z2j rfl rfl ?_ | refine Z31 rfl rfl ?_) | (refine Z2f ?_; (refine Z0c rfl (fun w' hb => Z24 rfl rfl ?_ ?_) ?_; (first | omega | simp <;> omega); (first | omega | simp <;> omega))) | (refine Z2l ?_; refine Z0c rfl (fun w' hb => Z0z rfl rfl) ?_) | (refine Z2w ?_; refine Z0c rfl (fun w' hb => Z2o rfl rfl) ?_) | (refine Z4o ?_; refine Z0c rfl (fun w' hb => Z1w rfl) ?_) | (refine Z10 ?_; first | refine Z0c rfl (fun w' hb => Z09 rfl) ?_ | refine Z0c rfl (fun w' hb => Z1g rfl) ?_) | (refine Z0q ?_; (refine Z0c rfl (fun w' hb => Z07 (hr.mono (S.grow hb).below) rfl rfl ?_ ?_) ?_; (first | omega | simp <;> omega); (first | omega | simp <;> omega))) | (refine Z1f ?_; first | (refine Z0c rfl (fun w' hb => Z11 (hr.mono (S.grow hb).below) rfl ?_ ?_ rfl) ?_; (first | omega | simp <;> omega); (first | omega | simp <;> omega)) | refine Z0c rfl (fun w' hb => Z0b (i := 0) (S.grow hb) rfl rfl rfl) ?_ | refine Z0c rfl (fun w' hb => Z0b (i := 2) (S.grow hb) rfl rfl rfl) ?_ | refine Z0c rfl (fun w' hb => Z0m (i := 2) (S.grow hb) rfl rfl rfl rfl) ?_) | (refine Z1v ?_; refine Z20 rfl (fun w' hb => Z0w rfl rfl rfl) (fun w' hb => Z4y (ha1 ▸ hf)) ?_) | (refine Z0n rfl (Z1i S) ?_; rintro _ w ⟨b, rfl, -, S'⟩; replace S := S'; clear S') | (first | (refine Z05 rfl (Z03 (i := 0) S rfl rfl rfl rfl (dqq rfl) (dqq rfl)) ?_; clear S; intro w S) | (refine Z05 rfl (Z03 (i := 1) S rfl rfl rfl rfl (dqq rfl) (dqq rfl)) ?_; clear S; intro w S) | (refine Z05 rfl (Z03 (i := 2) S rfl rfl rfl rfl (dqq rfl) (dqq rfl)) ?_; clear S; intro w S) | (refine Z05 rfl (Z03 (i := 3) S rfl rfl rfl rfl (dqq rfl) (dqq rfl)) ?_; clear S; intro w S)) | refine Z00 (v := .bool false) rfl (Z0i (D := Z4q) (S.rdRow (D := Z4q) (i := 1) rfl) rfl (by omega) (by omega) (by rw [hbn]; rfl)) ?_ | refine Z00 rfl (Z07 (S.rdRow (D := Z4q) (i := 1) rfl) rfl rfl (by omega) (by omega)) ?_ | (refine Z13 rfl rfl (fun h => ?_) (fun h => ?_) <;> (fail_if_success first | have := ntT h | have := ntF h) <;> (try simp only [tdyB] at h) <;> (try (exfalso; omega)) <;> (try (exfalso; omega; done))) | (refine Z21 rfl rfl (fun h => ?_) (fun h => ?_) <;> (fail_if_success first | have := ntT h | have := ntF h) <;> (try simp only [tdyB] at h) <;> (try (exfalso; omega)) <;> (try (exfalso; omega; done))) | (refine Z0g rfl (fun h => ?_) (fun h => ?_) <;> (fail_if_success first | have := ntT h | have := ntF h) <;> (try simp only [tdyB] at h) <;> (try (exfalso; omega)) <;> (try (exfalso; omega; done))))
       all_goals exact end1 rfl rfl ⟨rfl, S.below⟩
      | true =>
       have hbk' := of_decide_eq_true hbk
       have hset := tabB_set (f := bkN (L.take i.toNat)) (n := L.length) (j := (nth L i).Of) (b := true) (by omega) (by omega)
       have hrev := Zkl (L := L.take i.toNat) (p := nth L i) hk (by omega)
       rw [← Zcg hi0 hi] at hrev
       repeat' (first | refine Z0a ?_ | refine Z02 ?_ | refine Z08 ?_ | refine Z01 ?_ | refine Z0h ?_ | refine Z0k ?_ | refine Z0f ?_ | refine Z18 rfl ?_ | refine Z1s (by kernel_rfl) (by kernel_rfl) ?_ | (refine Z1q ?_; intro w hb; replace S := S.grow hb; clear hb) | refine Z06 rfl ?_ | refine Z04 rfl ?_ | refine Z0t rfl rfl ?_ | ((refine Z00 rfl (Z12 rfl rfl ?_ ?_) ?_; (first | omega | simp <;> omega); (first | omega | simp <;> omega))) | refine Z00 rfl (Z2k rfl rfl) ?_ | refine Z00 rfl (Z33 rfl rfl) ?_ | refine Z00 rfl (Z0z rfl rfl) ?_ | refine Z00 rfl (Z2x rfl rfl) ?_ | refine Z00 rfl (Z0e rfl) ?_ | refine Z00 rfl (Z09 rfl) ?_ | ((refine Z00 rfl (Z07 (hr.mono S.below) rfl rfl ?_ ?_) ?_; (first | omega | simp <;> omega); (first | omega | simp <;> omega))) | (first | (refine Z00 rfl (Z19 (hr.mono S.below) rfl ?_ ?_) ?_; (first | omega | simp <;> omega); (first | omega | simp <;> omega)) | refine Z00 rfl (Z0b (i := 0) S rfl rfl rfl) ?_ | refine Z00 rfl (Z0b (i := 2) S rfl rfl rfl) ?_ | refine Z00 rfl (Z0b (i := 3) S rfl rfl rfl) ?_) | (refine Z1e ?_; refine Z1r rfl ?_) | (refine Z2a ?_; first | refine Z2j rfl rfl ?_ | refine Z31 rfl rfl ?_) | (refine Z2f ?_; (refine Z0c rfl (fun w' hb => Z24 rfl rfl ?_ ?_) ?_; (first | omega | simp <;> omega); (first | omega | simp <;> omega))) | (refine Z2l ?_; refine Z0c rfl (fun w' hb => Z0z rfl rfl) ?_) | (refine Z2w ?_; refine Z0c rfl (fun w' hb => Z2o rfl rfl) ?_) | (refine Z4o ?_; refine Z0c rfl (fun w' hb => Z1w rfl) ?_) | (refine Z10 ?_; first | refine Z0c rfl (fun w' hb => Z09 rfl) ?_ | refine Z0c rfl (fun w' hb => Z1g rfl) ?_) | (refine Z0q ?_; (refine Z0c rfl (fun w' hb => Z07 (hr.mono (S.grow hb).below) rfl rfl ?_ ?_) ?_; (first | omega | simp <;> omega); (first | omega | simp <;> omega))) | (refine Z1f ?_; first | (refine Z0c rfl (fun w' hb => Z11 (hr.mono (S.grow hb).below) rfl ?_ ?_ rfl) ?_; (first | omega | simp <;> omega); (first | omega | simp <;> omega)) | refine Z0c rfl (fun w' hb => Z0b (i := 0) (S.grow hb) rfl rfl rfl) ?_ | refine Z0c rfl (fun w' hb => Z0b (i := 2) (S.grow hb) rfl rfl rfl) ?_ | refine Z0c rfl (fun w' hb => Z0m (i := 2) (S.grow hb) rfl rfl rfl rfl) ?_) | (refine Z1v ?_; refine Z20 rfl (fun w' hb => Z0w rfl rfl rfl) (fun w' hb => Z4y (ha1 ▸ hf)) ?_) | (refine Z0n rfl (Z1i S) ?_; rintro _ w ⟨b, rfl, -, S'⟩; replace S := S'; clear S') | (first | (refine Z05 rfl (Z03 (i := 0) S rfl rfl rfl rfl (dqq rfl) (dqq rfl)) ?_; clear S; intro w S) | (refine Z05 rfl (Z03 (i := 1) S rfl rfl rfl rfl (dqq rfl) (dqq rfl)) ?_; clear S; intro w S) | (refine Z05 rfl (Z03 (i := 2) S rfl rfl rfl rfl (dqq rfl) (dqq rfl)) ?_; clear S; intro w S) | (refine Z05 rfl (Z03 (i := 3) S rfl rfl rfl rfl (dqq rfl) (dqq rfl)) ?_; clear S; intro w S)) | refine Z00 (v := .bool false) rfl (Z0i (D := Z4q) (S.rdRow (D := Z4q) (i := 1) rfl) rfl (by omega) (by omega) (by rw [hbn]; rfl)) ?_ | refine Z00 rfl (Z07 (S.rdRow (D := Z4q) (i := 1) rfl) rfl rfl (by omega) (by omega)) ?_ | (refine Z05 rfl (Z29 (i := 1) (D := Z4q) (x := true) S rfl rfl rfl rfl (fun c hc => by cases List.mem_singleton.1 hc; rfl) (by omega) (by omega)) ?_; clear S; intro w S) | (refine Z13 rfl rfl (fun h => ?_) (fun h => ?_) <;> (fail_if_success first | have := ntT h | have := ntF h) <;> (try simp only [tdyB] at h) <;> (try (exfalso; omega)) <;> (try (exfalso; omega; done))) | (refine Z21 rfl rfl (fun h => ?_) (fun h => ?_) <;> (fail_if_success first | have := ntT h | have := ntF h) <;> (try simp only [tdyB] at h) <;> (try (exfalso; omega)) <;> (try (exfalso; omega; done))) | (refine Z0g rfl (fun h => ?_) (fun h => ?_) <;> (fail_if_success first | have := ntT h | have := ntF h) <;> (try simp only [tdyB] at h) <;> (try (exfalso; omega)) <;> (try (exfalso; omega; done))))
       refine ⟨⟨_, ?_, i + 1, ⟨rfl, rfl, rfl, trivial⟩, ?_, by omega, by omega, fun j q1 q2 => ?_, rfl⟩⟩
       ·omega
       ·rw [← hrev, ← hset]; exact S.keep [true, true]
       ·by_cases e : j = i
        ·subst e; rw [eT, hbk]
        ·exact hall j q1 (by omega)
    ·rw [hno (by rw [eT, decide_eq_false ho]; rfl)]
     repeat' (first | refine Z0a ?_ | refine Z02 ?_ | refine Z08 ?_ | refine Z01 ?_ | refine Z0x ?_ | refine Z27 ?_ | refine Z0r ?_ | refine Z0k ?_ | refine Z0f ?_ | refine Z0v rfl ?_ | refine Z18 rfl ?_ | refine Z1s (by kernel_rfl) (by kernel_rfl) ?_ | (refine Z1q ?_; intro w hb; replace S := S.grow hb; clear hb) | (refine Z1c ?_; refine Z1p rfl ?_) | refine Z06 rfl ?_ | refine Z04 rfl ?_ | (first | refine Z0u rfl rfl ?_ | refine Z0t rfl rfl ?_) | refine Z00 rfl (Z2k rfl rfl) ?_ | refine Z00 rfl (Z0z rfl rfl) ?_ | refine Z00 rfl (Z2x rfl rfl) ?_ | refine Z00 rfl (Z0e rfl) ?_ | refine Z00 rfl (Z09 rfl) ?_ | ((refine Z00 rfl (Z07 (hr.mono S.below) rfl rfl ?_ ?_) ?_; (first | omega | simp <;> omega); (first | omega | simp <;> omega))) | (first | (refine Z00 rfl (Z19 (hr.mono S.below) rfl ?_ ?_) ?_; (first | omega | simp <;> omega); (first | omega | simp <;> omega)) | refine Z00 rfl (Z0b (i := 0) S rfl rfl rfl) ?_ | refine Z00 rfl (Z0b (i := 2) S rfl rfl rfl) ?_) | (refine Z2y ?_; refine Z5l rfl ?_) | (refine Z1e ?_; refine Z1r rfl ?_) | (refine Z2a ?_; first | refine Z2j rfl rfl ?_ | refine Z31 rfl rfl ?_) | (refine Z2f ?_; (refine Z0c rfl (fun w' hb => Z24 rfl rfl ?_ ?_) ?_; (first | omega | simp <;> omega); (first | omega | simp <;> omega))) | (refine Z2l ?_; refine Z0c rfl (fun w' hb => Z0z rfl rfl) ?_) | (refine Z2w ?_; refine Z0c rfl (fun w' hb => Z2o rfl rfl) ?_) | (refine Z4o ?_; refine Z0c rfl (fun w' hb => Z1w rfl) ?_) | (refine Z10 ?_; first | refine Z0c rfl (fun w' hb => Z09 rfl) ?_ | refine Z0c rfl (fun w' hb => Z1g rfl) ?_) | (refine Z0q ?_; (refine Z0c rfl (fun w' hb => Z07 (hr.mono (S.grow hb).below) rfl rfl ?_ ?_) ?_; (first | omega | simp <;> omega); (first | omega | simp <;> omega))) | (refine Z1f ?_; first | (refine Z0c rfl (fun w' hb => Z11 (hr.mono (S.grow hb).below) rfl ?_ ?_ rfl) ?_; (first | omega | simp <;> omega); (first | omega | simp <;> omega)) | refine Z0c rfl (fun w' hb => Z0b (i := 0) (S.grow hb) rfl rfl rfl) ?_ | refine Z0c rfl (fun w' hb => Z0b (i := 2) (S.grow hb) rfl rfl rfl) ?_ | refine Z0c rfl (fun w' hb => Z0m (i := 2) (S.grow hb) rfl rfl rfl rfl) ?_) | (refine Z1v ?_; refine Z20 rfl (fun w' hb => Z0w rfl rfl rfl) (fun w' hb => Z4y (ha1 ▸ hf)) ?_) | (refine Z0n rfl (Z1i S) ?_; rintro _ w ⟨b, rfl, -, S'⟩; replace S := S'; clear S') | (first | (refine Z05 rfl (Z03 (i := 0) S rfl rfl rfl rfl (dqq rfl) (dqq rfl)) ?_; clear S; intro w S) | (refine Z05 rfl (Z03 (i := 1) S rfl rfl rfl rfl (dqq rfl) (dqq rfl)) ?_; clear S; intro w S) | (refine Z05 rfl (Z03 (i := 2) S rfl rfl rfl rfl (dqq rfl) (dqq rfl)) ?_; clear S; intro w S)) | (refine Z13 rfl rfl (fun h => ?_) (fun h => ?_) <;> (fail_if_success first | have := ntT h | have := ntF h) <;> (try simp only [tdyB] at h) <;> (try (exfalso; omega)) <;> (try (exfalso; omega; done))) | (refine Z21 rfl rfl (fun h => ?_) (fun h => ?_) <;> (fail_if_success first | have := ntT h | have := ntF h) <;> (try simp only [tdyB] at h) <;> (try (exfalso; omega)) <;> (try (exfalso; omega; done))) | (refine Z0g rfl (fun h => ?_) (fun h => ?_) <;> (fail_if_success first | have := ntT h | have := ntF h) <;> (try simp only [tdyB] at h) <;> (try (exfalso; omega)) <;> (try (exfalso; omega; done))))
     all_goals exact end1 rfl rfl ⟨rfl, S.below⟩
   ·have hrev := Z8o (L := L.take i.toNat) (p := nth L i) hk
    rw [← Zcg hi0 hi] at hrev
    have eT2 : Z3e a1 (L.take i.toNat) (nth L i) = true := by rw [eT]; unfold Z9p; rw [decide_eq_true hk]; rfl
    repeat' (first | refine Z0a ?_ | refine Z02 ?_ | refine Z08 ?_ | refine Z01 ?_ | refine Z0s ?_ | refine Z15 ?_ | refine Z0k ?_ | refine Z1b ?_ | refine Z0f ?_ | refine Z0v rfl ?_ | refine Z18 rfl ?_ | refine Z1s (by kernel_rfl) (by kernel_rfl) ?_ | (refine Z1q ?_; intro w hb; replace S := S.grow hb; clear hb) | (refine Z1c ?_; refine Z1p rfl ?_) | refine Z06 rfl ?_ | refine Z04 rfl ?_ | (first | refine Z0u rfl rfl ?_ | refine Z0t rfl rfl ?_) | ((refine Z00 rfl (Z12 rfl rfl ?_ ?_) ?_; (first | omega | simp <;> omega); (first | omega | simp <;> omega))) | refine Z00 rfl (Z2k rfl rfl) ?_ | refine Z00 rfl (Z0z rfl rfl) ?_ | refine Z00 rfl (Z0e rfl) ?_ | refine Z00 rfl (Z09 rfl) ?_ | ((refine Z00 rfl (Z07 (hr.mono S.below) rfl rfl ?_ ?_) ?_; (first | omega | simp <;> omega); (first | omega | simp <;> omega))) | (first | (refine Z00 rfl (Z19 (hr.mono S.below) rfl ?_ ?_) ?_; (first | omega | simp <;> omega); (first | omega | simp <;> omega)) | refine Z00 rfl (Z0b (i := 0) S rfl rfl rfl) ?_ | refine Z00 rfl (Z0b (i := 2) S rfl rfl rfl) ?_) | (refine Z2y ?_; refine Z5l rfl ?_) | (refine Z1e ?_; refine Z1r rfl ?_) | (refine Z2a ?_; first | refine Z2j rfl rfl ?_ | refine Z31 rfl rfl ?_) | (refine Z2f ?_; (refine Z0c rfl (fun w' hb => Z24 rfl rfl ?_ ?_) ?_; (first | omega | simp <;> omega); (first | omega | simp <;> omega))) | (refine Z2l ?_; refine Z0c rfl (fun w' hb => Z0z rfl rfl) ?_) | (refine Z2w ?_; refine Z0c rfl (fun w' hb => Z2o rfl rfl) ?_) | (refine Z4o ?_; refine Z0c rfl (fun w' hb => Z1w rfl) ?_) | (refine Z10 ?_; first | refine Z0c rfl (fun w' hb => Z09 rfl) ?_ | refine Z0c rfl (fun w' hb => Z1g rfl) ?_) | (refine Z0q ?_; (refine Z0c rfl (fun w' hb => Z07 (hr.mono (S.grow hb).below) rfl rfl ?_ ?_) ?_; (first | omega | simp <;> omega); (first | omega | simp <;> omega))) | (refine Z1f ?_; first | (refine Z0c rfl (fun w' hb => Z11 (hr.mono (S.grow hb).below) rfl ?_ ?_ rfl) ?_; (first | omega | simp <;> omega); (first | omega | simp <;> omega)) | refine Z0c rfl (fun w' hb => Z0b (i := 0) (S.grow hb) rfl rfl rfl) ?_ | refine Z0c rfl (fun w' hb => Z0b (i := 2) (S.grow hb) rfl rfl rfl) ?_ | refine Z0c rfl (fun w' hb => Z0m (i := 2) (S.grow hb) rfl rfl rfl rfl) ?_) | (refine Z1v ?_; refine Z20 rfl (fun w' hb => Z0w rfl rfl rfl) (fun w' hb => Z4y (ha1 ▸ hf)) ?_) | (refine Z0n rfl (Z1i S) ?_; rintro _ w ⟨b, rfl, -, S'⟩; replace S := S'; clear S') | (first | (refine Z05 rfl (Z03 (i := 0) S rfl rfl rfl rfl (dqq rfl) (dqq rfl)) ?_; clear S; intro w S) | (refine Z05 rfl (Z03 (i := 1) S rfl rfl rfl rfl (dqq rfl) (dqq rfl)) ?_; clear S; intro w S) | (refine Z05 rfl (Z03 (i := 2) S rfl rfl rfl rfl (dqq rfl) (dqq rfl)) ?_; clear S; intro w S)) | (refine Z13 rfl rfl (fun h => ?_) (fun h => ?_) <;> (fail_if_success first | have := ntT h | have := ntF h) <;> (try simp only [tdyB] at h) <;> (try (exfalso; omega)) <;> (try (exfalso; omega; done))) | (refine Z21 rfl rfl (fun h => ?_) (fun h => ?_) <;> (fail_if_success first | have := ntT h | have := ntF h) <;> (try simp only [tdyB] at h) <;> (try (exfalso; omega)) <;> (try (exfalso; omega; done))) | (refine Z0g rfl (fun h => ?_) (fun h => ?_) <;> (fail_if_success first | have := ntT h | have := ntF h) <;> (try simp only [tdyB] at h) <;> (try (exfalso; omega)) <;> (try (exfalso; omega; done))))
    all_goals
     refine ⟨⟨_, ?_, i + 1, ⟨rfl, rfl, rfl, trivial⟩, ?_, by omega, by omega, fun j q1 q2 => ?_, rfl⟩⟩
     ·omega
     ·rw [← hrev]; exact S.keep [true, true]
     ·by_cases e : j = i
      ·subst e; exact eT2
      ·exact hall j q1 (by omega)
  ·have hT : allT a1 L = true := Zkn fun j q1 q2 => hall j q1 (by omega)
   rw [hT]
   repeat' (first | refine Z0a ?_ | refine Z02 ?_ | refine Z08 ?_ | refine Z01 ?_ | refine Z0s ?_ | refine Z15 ?_ | refine Z0r ?_ | refine Z1b ?_ | refine Z06 rfl ?_ | refine Z04 rfl ?_ | refine Z00 rfl (Z0z rfl rfl) ?_ | refine Z00 rfl (Z0e rfl) ?_ | refine Z00 rfl (Z09 rfl) ?_ | refine Z00 rfl (Z0b (i := 0) S rfl rfl rfl) ?_ | (refine Z0g rfl (fun h => ?_) (fun h => ?_) <;> (fail_if_success first | have := ntT h | have := ntF h) <;> (try simp only [tdyB] at h) <;> (try (exfalso; omega)) <;> (try (exfalso; omega; done))))
   exact end1 rfl rfl ⟨rfl, S.below⟩
 ·have e : Z2d acc cl L = false := by
   cases hh : Z2d acc cl L with
   | false => rfl
   | true => unfold Z2d at hh; rw [Bool.and_eq_true] at hh; exact absurd (Zab hh.1) hlen
  rw [e]
  repeat' (first | refine Z0a ?_ | refine Z02 ?_ | refine Z08 ?_ | refine Z01 ?_ | refine Z0x ?_ | refine Z0r ?_ | refine Z06 rfl ?_ | refine Z04 rfl ?_ | refine Z0t rfl rfl ?_ | refine Z00 rfl (Z2o rfl rfl) ?_ | refine Z00 rfl (Z1w rfl) ?_ | refine Z00 rfl (Z0e rfl) ?_ | refine Z00 rfl (Z09 rfl) ?_ | refine Z00 rfl (Z0b (i := 0) S rfl rfl rfl) ?_ | (first | (refine Z0j rfl (Z1t rfl rfl rfl rfl) (Z9l i1) ?_; intro w hb; replace S := S.grow hb; clear hb) | (refine Z0j rfl (Z1t rfl rfl rfl rfl) (Z9l i2) ?_; intro w hb; replace S := S.grow hb; clear hb)) | (refine Z2g ?_; refine Z0n rfl (Z2h S rfl) ?_; rintro _ w ⟨b, rfl, -, S'⟩; replace S := S'; clear S') | (refine Z0g rfl (fun h => ?_) (fun h => ?_) <;> (fail_if_success first | have := ntT h | have := ntF h) <;> (try simp only [tdyB] at h) <;> (try (exfalso; omega)) <;> (try (exfalso; omega; done))))
  all_goals exact end1 rfl rfl ⟨rfl, S.below⟩

theorem Zch {acc cl : Int} {L : List GPosting} {p : GPosting} : Z2d acc cl (L ++ [p]) = (Z2d acc cl L && Z3e (IntKind.i64.wrap (acc - 1)) L p) := by
 unfold Z2d
 rw [Z8p]
 cases allT (IntKind.i64.wrap (acc - 1)) L <;> cases Z3e (IntKind.i64.wrap (acc - 1)) L p <;> cases okAC acc cl <;> rfl
set_option maxRecDepth 20000 in
set_option maxHeartbeats 4000000 in
theorem Z8r {acc cl : Int} {L : List GPosting} {p : GPosting} {v : Value} {w0 : World} (hr : Rd Z0o.ty w0 v L) (hl : L.length ≤ 1000000) :
  CallsR Tryd.prog 42 #[.agg (bkV acc v cl).toArray, .agg p.enc.toArray] w0 (Z5x w0 acc cl L p) := by
 have S := St.start w0
 obtain ⟨A, c, rfl⟩ := hr.len
 refine CallsR.mk ?_
 refine Z0l Tryd.func42 rfl (by intro _ h; first | exact nomatch h.1 | (obtain ⟨_, h, _⟩ := h; exact nomatch h)) Tryd.ntmps42 rfl ?_
 repeat' (first | refine Z0a ?_ | refine Z02 ?_ | refine Z08 ?_ | refine Z01 ?_ | refine Z04 rfl ?_ | refine Z00 rfl (Z0m (i := 0) S rfl rfl rfl rfl) ?_ | (refine Z2g ?_; refine Z0n rfl (Z2h S rfl) ?_; rintro _ w ⟨b, rfl, -, S'⟩; replace S := S'; clear S') | (refine Z0n rfl (Z1i S) ?_; rintro _ w ⟨b, rfl, -, S'⟩; replace S := S'; clear S') | (first | (refine Z05 rfl (Z03 (i := 0) S rfl rfl rfl rfl (dqq rfl) (dqq rfl)) ?_; clear S; intro w S) | (refine Z05 rfl (Z03 (i := 1) S rfl rfl rfl rfl (dqq rfl) (dqq rfl)) ?_; clear S; intro w S) | (refine Z05 rfl (Z03 (i := 2) S rfl rfl rfl rfl (dqq rfl) (dqq rfl)) ?_; clear S; intro w S) | (refine Z05 rfl (Z03 (i := 3) S rfl rfl rfl rfl (dqq rfl) (dqq rfl)) ?_; clear S; intro w S)))
 obtain ⟨b7, rfl⟩ : ∃ x, x = b := ⟨_, rfl⟩
 obtain ⟨b4, rfl⟩ : ∃ x, x = b := ⟨_, rfl⟩
 obtain ⟨b3, rfl⟩ : ∃ x, x = b := ⟨_, rfl⟩
 obtain ⟨b2, rfl⟩ : ∃ x, x = b := ⟨_, rfl⟩
 replace S : St w0 w [.var b2 27 (bkV acc (.slice A L.length c) cl), .var b3 84 p.enc, .var b4 27 (bkV 0 (.slice none 0 0) 0), .var b7 27 (bkV acc (.slice A L.length c) cl)] := S
 refine Z2c (fun σ w1 => ∃ (A2 : Option Addr) (c2 : Nat), Has σ [(2, .pointer (some ⟨b2, 0, none⟩)), (3, .pointer (some ⟨b3, 0, none⟩)), (4, .pointer (some ⟨b4, 0, none⟩)), (7, .pointer (some ⟨b7, 0, none⟩))] ∧ St w0 w1 [.var b2 27 (bkV acc (.slice A L.length c) cl), .var b3 84 p.enc, .var b4 27 (bkV 0 (.slice none 0 0) 0), .var b7 27 (bkV acc (.slice A2 (L ++ [p]).length c2) cl), rowP (.slice A2 (L ++ [p]).length c2) (L ++ [p])]) ?_ ?_
 ·refine Z3r (fun w' => St w0 w' [.var b2 27 (bkV acc (.slice A L.length c) cl), .var b3 84 p.enc, .var b4 27 (bkV 0 (.slice none 0 0) 0)]) (.vals [1, 4, 2] (.two 0 (.two 3 (.one 5 (.one 6 (.vals [7] (.one 8 .fin)))) 5 (.one 3 (.one 6 (.vals [7] (.one 8 .fin))))) 5 (.one 0 (.one 3 (.one 6 (.vals [7] (.one 8 .fin))))))) (by kernel_rfl) (by decide) (by decide +kernel) (fun w' hb => (S.grow hb).keep [true, true, true]) ?_
  intro w' hb; replace S := S.grow hb; clear hb
  refine Z1y ?_
  refine Z0p rfl (fun w' hJ => Z09 rfl) ?_
  refine Z0p rfl (fun w' hJ => Z0m (i := 1) hJ rfl rfl rfl rfl) ?_
  refine Z0p (v := .slice A L.length c) rfl (fun w' hJ => Z0b (i := 0) hJ rfl rfl rfl) ?_
  refine Z1z ?_
  refine Zbm ?_ ?_
  ·refine Z2i rfl (Z9e (D := Z0o) S) ?_; rintro vn w ⟨-, S'⟩; replace S := S'; clear S'; refine ⟨S.keep [true, true, true], ?_⟩
   refine Zbm ?_ ?_
   ·refine Z2i rfl (Z3j (D := Z0o) (i := 4) S rfl (hr.mono S.below) rfl rfl rfl (by decide) Z6b (by simp; omega) (by simp; omega)) ?_; rintro va w ⟨-, S'⟩; replace S := S'; clear S'; refine ⟨S.keep [true, true, true], ?_⟩
    refine Z2b ?_; refine Z2i rfl (Z2z (D := Z0o) [p] (fun y => .agg y.enc.toArray) S rfl rfl (fun _ => rfl) rfl (by decide) (by decide)) ?_; rintro _ w ⟨bq, rfl, -, -, S'⟩; replace S := S'; clear S'; refine ⟨S.keep [true, true, true], ?_⟩
    refine Z2b ?_; refine Z2i rfl (Z2t (D := Z0o) (i := 4) (b := bq) (x := p) S rfl rfl rfl ((S.rdRow (D := Z0o) (i := 5) rfl).flat (i := 0) (by omega) (by simp)) rfl (by decide) (Z6b p) (by simp; omega) (by simp; omega)) ?_; rintro vz w ⟨-, S'⟩; replace S := S'; clear S'; refine ⟨S.keep [true, true, true], ?_⟩
    obtain ⟨A2, c2, hz⟩ := (S.rdRow (D := Z0o) (i := 4) rfl).len; subst hz
    refine Z1y ?_; refine Z0p rfl (fun w' hJ => Z09 rfl) ?_; refine Z1z ?_
    refine Z2b ?_; refine Z3c rfl (Z03 (i := 3) S rfl rfl rfl rfl (dqq rfl) (dqq rfl)) ?_; clear S; intro w S; refine ⟨S.keep [true, true, true], ?_⟩
    refine Z3t ?_; refine Z1x ?_; exact ⟨A2, c2, ⟨rfl, rfl, rfl, rfl, trivial⟩, S.keep [true, true, true, true, true, false]⟩
   ·refine Z2i rfl (Z2z (D := Z0o) [p] (fun y => .agg y.enc.toArray) S rfl rfl (fun _ => rfl) rfl (by decide) (by decide)) ?_; rintro _ w ⟨bq, rfl, -, -, S'⟩; replace S := S'; clear S'; refine ⟨S.keep [true, true, true], ?_⟩
    refine Z2b ?_; refine Z2i rfl (Z3j (D := Z0o) (i := 4) S rfl (hr.mono S.below) rfl rfl rfl (by decide) Z6b (by simp; omega) (by simp; omega)) ?_; rintro va w ⟨-, S'⟩; replace S := S'; clear S'; refine ⟨S.keep [true, true, true], ?_⟩
    refine Z2b ?_; refine Z2i rfl (Z2t (D := Z0o) (i := 4) (b := bq) (x := p) S rfl rfl rfl ((S.rdRow (D := Z0o) (i := 5) rfl).flat (i := 0) (by omega) (by simp)) rfl (by decide) (Z6b p) (by simp; omega) (by simp; omega)) ?_; rintro vz w ⟨-, S'⟩; replace S := S'; clear S'; refine ⟨S.keep [true, true, true], ?_⟩
    obtain ⟨A2, c2, hz⟩ := (S.rdRow (D := Z0o) (i := 4) rfl).len; subst hz
    refine Z1y ?_; refine Z0p rfl (fun w' hJ => Z09 rfl) ?_; refine Z1z ?_
    refine Z2b ?_; refine Z3c rfl (Z03 (i := 3) S rfl rfl rfl rfl (dqq rfl) (dqq rfl)) ?_; clear S; intro w S; refine ⟨S.keep [true, true, true], ?_⟩
    refine Z3t ?_; refine Z1x ?_; exact ⟨A2, c2, ⟨rfl, rfl, rfl, rfl, trivial⟩, S.keep [true, true, true, true, true, false]⟩
  ·refine Z2i rfl (Z2z (D := Z0o) [p] (fun y => .agg y.enc.toArray) S rfl rfl (fun _ => rfl) rfl (by decide) (by decide)) ?_; rintro _ w ⟨bq, rfl, -, -, S'⟩; replace S := S'; clear S'; refine ⟨S.keep [true, true, true], ?_⟩
   refine Z2b ?_; refine Z2i rfl (Z9e (D := Z0o) S) ?_; rintro vn w ⟨-, S'⟩; replace S := S'; clear S'; refine ⟨S.keep [true, true, true], ?_⟩
   refine Z2b ?_; refine Z2i rfl (Z3j (D := Z0o) (i := 5) S rfl (hr.mono S.below) rfl rfl rfl (by decide) Z6b (by simp; omega) (by simp; omega)) ?_; rintro va w ⟨-, S'⟩; replace S := S'; clear S'; refine ⟨S.keep [true, true, true], ?_⟩
   refine Z2b ?_; refine Z2i rfl (Z2t (D := Z0o) (i := 5) (b := bq) (x := p) S rfl rfl rfl ((S.rdRow (D := Z0o) (i := 4) rfl).flat (i := 0) (by omega) (by simp)) rfl (by decide) (Z6b p) (by simp; omega) (by simp; omega)) ?_; rintro vz w ⟨-, S'⟩; replace S := S'; clear S'; refine ⟨S.keep [true, true, true], ?_⟩
   obtain ⟨A2, c2, hz⟩ := (S.rdRow (D := Z0o) (i := 5) rfl).len; subst hz
   refine Z1y ?_; refine Z0p rfl (fun w' hJ => Z09 rfl) ?_; refine Z1z ?_
   refine Z2b ?_; refine Z3c rfl (Z03 (i := 3) S rfl rfl rfl rfl (dqq rfl) (dqq rfl)) ?_; clear S; intro w S; refine ⟨S.keep [true, true, true], ?_⟩
   refine Z3t ?_; refine Z1x ?_; exact ⟨A2, c2, ⟨rfl, rfl, rfl, rfl, trivial⟩, S.keep [true, true, true, true, false, true]⟩
 clear S
 rintro σ w1 ⟨A2, c2, hs, S⟩
 refine Z1o hs ?_
 clear hs
 have hsn := @Zch acc cl L p
 have hr2 := S.rdRow (D := Z0o) (i := 4) rfl
 have hll : (L ++ [p]).length ≤ 1000000000 := by simp; omega
 cases h1 : Z2d acc cl L with
 | false =>
  have e : Z3a acc cl L p = false := by unfold Z3a; rw [h1]; rfl
  repeat' (first | refine Z0a ?_ | refine Z02 ?_ | refine Z08 ?_ | refine Z01 ?_ | refine Z0x ?_ | refine Z0r ?_ | refine Z0v rfl ?_ | (refine Z1c ?_; refine Z1p rfl ?_) | refine Z06 rfl ?_ | refine Z04 rfl ?_ | refine Z0u rfl rfl ?_ | refine Z00 rfl (Z59 ) ?_ | refine Z00 rfl (Z1w rfl) ?_ | refine Z00 rfl (Z0m (i := 0) S rfl rfl rfl rfl) ?_ | ((refine Z0j rfl (Z1h rfl rfl) (Z4z h1 (hr.mono S.below) (by omega)) ?_; intro w hb; replace S := S.grow hb; clear hb)) | (first | (refine Z05 rfl (Z03 (i := 0) S rfl rfl rfl rfl (dqq rfl) (dqq rfl)) ?_; clear S; intro w S) | (refine Z05 rfl (Z03 (i := 1) S rfl rfl rfl rfl (dqq rfl) (dqq rfl)) ?_; clear S; intro w S) | (refine Z05 rfl (Z03 (i := 2) S rfl rfl rfl rfl (dqq rfl) (dqq rfl)) ?_; clear S; intro w S) | (refine Z05 rfl (Z03 (i := 3) S rfl rfl rfl rfl (dqq rfl) (dqq rfl)) ?_; clear S; intro w S)))
  exact Z9j rfl rfl rfl rfl S (i := 2) rfl rfl ⟨_, rfl, S.below, by unfold Z5x; rw [e, if_neg (by simp)]; rfl⟩
 | true =>
 rw [h1, Bool.true_and] at hsn
 have hclr : 0 ≤ cl ∧ cl ≤ 12 := by unfold Z2d okAC at h1; simp only [Bool.and_eq_true] at h1; exact of_decide_eq_true h1.2.2
 cases h2 : Z3e (IntKind.i64.wrap (acc - 1)) L p with
 | false =>
  have e : Z3a acc cl L p = false := by unfold Z3a Z5d; rw [h2]; simp
  rw [h2] at hsn
  repeat' (first | refine Z0a ?_ | refine Z02 ?_ | refine Z08 ?_ | refine Z01 ?_ | refine Z0x ?_ | refine Z0r ?_ | refine Z0v rfl ?_ | (refine Z1c ?_; refine Z1p rfl ?_) | refine Z06 rfl ?_ | refine Z04 rfl ?_ | (first | refine Z0u rfl rfl ?_ | refine Z0t rfl rfl ?_) | refine Z00 rfl (Z59 ) ?_ | refine Z00 rfl (Z1w rfl) ?_ | (first | refine Z00 rfl (Z0m (i := 0) S rfl rfl rfl rfl) ?_ | refine Z00 rfl (Z0m (i := 3) S rfl rfl rfl rfl) ?_) | (first | (refine Z0j rfl (Z1h rfl rfl) (Z4z h1 (hr.mono S.below) (by omega)) ?_; intro w hb; replace S := S.grow hb; clear hb) | (refine Z0j rfl (Z1h rfl rfl) (Z4z hsn (S.rdRow (D := Z0o) (i := 4) rfl) hll) ?_; intro w hb; replace S := S.grow hb; clear hb)) | (first | (refine Z05 rfl (Z03 (i := 0) S rfl rfl rfl rfl (dqq rfl) (dqq rfl)) ?_; clear S; intro w S) | (refine Z05 rfl (Z03 (i := 1) S rfl rfl rfl rfl (dqq rfl) (dqq rfl)) ?_; clear S; intro w S) | (refine Z05 rfl (Z03 (i := 2) S rfl rfl rfl rfl (dqq rfl) (dqq rfl)) ?_; clear S; intro w S) | (refine Z05 rfl (Z03 (i := 3) S rfl rfl rfl rfl (dqq rfl) (dqq rfl)) ?_; clear S; intro w S)))
  exact Z9j rfl rfl rfl rfl S (i := 2) rfl rfl ⟨_, rfl, S.below, by unfold Z5x; rw [e, if_neg (by simp)]; rfl⟩
 | true =>
 rw [h2] at hsn
 by_cases h3 : 30 * cl ≤ p.Day
 ·have e : Z3a acc cl L p = true := by unfold Z3a Z5d; rw [h1, h2, decide_eq_true h3]; rfl
  repeat' (first | refine Z0a ?_ | refine Z02 ?_ | refine Z08 ?_ | refine Z01 ?_ | refine Z0k ?_ | refine Z06 rfl ?_ | refine Z0t rfl rfl ?_ | ((refine Z00 rfl (Z5f rfl rfl ?_ ?_) ?_; (first | omega | simp <;> omega); (first | omega | simp <;> omega))) | refine Z00 rfl (Z0z rfl rfl) ?_ | refine Z00 rfl (Z1w rfl) ?_ | refine Z00 rfl (Z09 rfl) ?_ | (first | refine Z00 rfl (Z0b (i := 0) S rfl rfl rfl) ?_ | refine Z00 rfl (Z0m (i := 0) S rfl rfl rfl rfl) ?_ | refine Z00 rfl (Z0b (i := 1) S rfl rfl rfl) ?_ | refine Z00 rfl (Z0m (i := 3) S rfl rfl rfl rfl) ?_) | (first | (refine Z0j rfl (Z1h rfl rfl) (Z4z h1 (hr.mono S.below) (by omega)) ?_; intro w hb; replace S := S.grow hb; clear hb) | (refine Z0j rfl (Z1h rfl rfl) (Z4z hsn (S.rdRow (D := Z0o) (i := 4) rfl) hll) ?_; intro w hb; replace S := S.grow hb; clear hb)) | (refine Z0g rfl (fun h => ?_) (fun h => ?_) <;> (fail_if_success first | have := ntT h | have := ntF h) <;> (try simp only [tdyB] at h) <;> (try (exfalso; omega)) <;> (try (exfalso; omega; done))))
  refine Z3r (fun w' => St w0 w' [.var b2 27 (bkV acc (.slice A L.length c) cl), .var b3 84 p.enc, .var b7 27 (bkV acc (.slice A2 (L ++ [p]).length c2) cl)]) (.vals [0, 1, 2, 3] (.one 4 (.vals [5, 6] .fin))) (by kernel_rfl) (by decide) (by decide +kernel) (fun w' hb => (S.grow hb).keep [true, true, false, true]) ?_
  intro w' hb; replace S := S.grow hb; clear hb
  refine Z1y ?_
  refine Z0p rfl (fun w' hJ => Z0m (i := 2) hJ rfl rfl rfl rfl) ?_
  refine Z0p rfl (fun w' hJ => Z09 rfl) ?_
  refine Z0p (v := .slice A L.length c) rfl (fun w' hJ => Z0b (i := 0) hJ rfl rfl rfl) ?_
  refine Z0p rfl (fun w' hJ => Z0e rfl) ?_
  refine Z1z ?_
  refine Z2b ?_; refine Z3c rfl (Z03 (i := 2) S rfl rfl rfl rfl (dqq rfl) (dqq rfl)) ?_; clear S; intro w S; refine ⟨S.keep [true, true, false, true], ?_⟩
  refine Z1y ?_; refine Z0p rfl (fun w' hJ => ⟨rfl⟩) ?_; refine Z0p rfl (fun w' hJ => ⟨rfl⟩) ?_; refine Z1z ?_
  refine Z3t ?_; refine Z1x ?_
  repeat' (first | refine Z01 ?_ | refine Z0r ?_)
  refine Z9j rfl rfl rfl rfl S (i := 2) rfl rfl ⟨_, rfl, S.below, ?_⟩
  unfold Z5x
  rw [e, if_pos rfl]
  exact ⟨_, rfl, S.keep [false, false, false, false, true]⟩
 ·have e : Z3a acc cl L p = false := by unfold Z3a Z5d; rw [decide_eq_false h3]; simp
  repeat' (first | refine Z0a ?_ | refine Z02 ?_ | refine Z08 ?_ | refine Z01 ?_ | refine Z0x ?_ | refine Z0r ?_ | refine Z06 rfl ?_ | refine Z04 rfl ?_ | refine Z0t rfl rfl ?_ | ((refine Z00 rfl (Z5f rfl rfl ?_ ?_) ?_; (first | omega | simp <;> omega); (first | omega | simp <;> omega))) | refine Z00 rfl (Z0z rfl rfl) ?_ | refine Z00 rfl (Z59 ) ?_ | refine Z00 rfl (Z1w rfl) ?_ | refine Z00 rfl (Z09 rfl) ?_ | (first | refine Z00 rfl (Z0b (i := 0) S rfl rfl rfl) ?_ | refine Z00 rfl (Z0m (i := 0) S rfl rfl rfl rfl) ?_ | refine Z00 rfl (Z0b (i := 1) S rfl rfl rfl) ?_ | refine Z00 rfl (Z0m (i := 3) S rfl rfl rfl rfl) ?_) | (first | (refine Z0j rfl (Z1h rfl rfl) (Z4z h1 (hr.mono S.below) (by omega)) ?_; intro w hb; replace S := S.grow hb; clear hb) | (refine Z0j rfl (Z1h rfl rfl) (Z4z hsn (S.rdRow (D := Z0o) (i := 4) rfl) hll) ?_; intro w hb; replace S := S.grow hb; clear hb)) | (first | (refine Z05 rfl (Z03 (i := 0) S rfl rfl rfl rfl (dqq rfl) (dqq rfl)) ?_; clear S; intro w S) | (refine Z05 rfl (Z03 (i := 1) S rfl rfl rfl rfl (dqq rfl) (dqq rfl)) ?_; clear S; intro w S) | (refine Z05 rfl (Z03 (i := 2) S rfl rfl rfl rfl (dqq rfl) (dqq rfl)) ?_; clear S; intro w S) | (refine Z05 rfl (Z03 (i := 3) S rfl rfl rfl rfl (dqq rfl) (dqq rfl)) ?_; clear S; intro w S)) | (refine Z0g rfl (fun h => ?_) (fun h => ?_) <;> (fail_if_success first | have := ntT h | have := ntF h) <;> (try simp only [tdyB] at h) <;> (try (exfalso; omega)) <;> (try (exfalso; omega; done))))
  all_goals exact Z9j rfl rfl rfl rfl S (i := 2) rfl rfl ⟨_, rfl, S.below, by unfold Z5x; rw [e, if_neg (by simp)]; rfl⟩

def clOk (acc cl : Int) (L : List GPosting) (mo : Int) : Bool := Z2d acc cl L && (decide (mo = cl) && inR mo 0 11)
def Zeu (w0 : World) (acc cl : Int) (L : List GPosting) (mo : Int) (r : Value) (w' : World) : Prop :=
 if clOk acc cl L mo = true then BkR w0 acc (mo + 1) L [.int .i64 0] r w' else r = .tuple #[.agg (bkV 0 (.slice none 0 0) 0).toArray, .int .i64 240]

set_option maxRecDepth 20000 in
set_option maxHeartbeats 4000000 in
theorem Zev {acc cl i day amount : Int} {L : List GPosting} {v : Value} {w0 : World} (hr : Rd Z0o.ty w0 v L) (hl : L.length ≤ 1000000) :
  CallsR Tryd.prog 43 #[.agg (bkV acc v cl).toArray, .int .i64 i, .int .i64 day, .int .i64 amount] w0 (Z96 w0 acc cl L i day amount) := by
 have S := St.start w0
 obtain ⟨A, c, rfl⟩ := hr.len
 have hno : ∀ {r w'}, Z38 acc cl L i day amount = false → r = .tuple #[.agg (bkV 0 (.slice none 0 0) 0).toArray, .int .i64 240] → Z96 w0 acc cl L i day amount r w' := fun h e => by unfold Z96; rw [h, if_neg (by simp)]; exact e
 refine CallsR.mk ?_
 refine Z0l Tryd.func43 rfl (by intro _ h; first | exact nomatch h.1 | (obtain ⟨_, h, _⟩ := h; exact nomatch h)) Tryd.ntmps43 rfl ?_
 cases hD : argD L i amount with
 | false =>
  have e : Z38 acc cl L i day amount = false := by unfold Z38; rw [hD]; simp
  have hD' := of_decide_eq_false hD
  repeat' (first | refine Z0a ?_ | refine Z02 ?_ | refine Z08 ?_ | refine Z01 ?_ | refine Z0x ?_ | refine Z0r ?_ | refine Z0v rfl ?_ | (refine Z1c ?_; refine Z1p rfl ?_) | refine Z06 rfl ?_ | refine Z04 rfl ?_ | (first | refine Z0u rfl rfl ?_ | refine Z0t rfl rfl ?_) | refine Z00 rfl (Z0z rfl rfl) ?_ | refine Z00 rfl (Z2x rfl rfl) ?_ | refine Z00 rfl (Z59 ) ?_ | refine Z00 rfl (Z1w rfl) ?_ | refine Z00 rfl (Z0e rfl) ?_ | refine Z00 rfl (Z09 rfl) ?_ | refine Z00 rfl (Z0b (i := 0) S rfl rfl rfl) ?_ | ((refine Z0j rfl (Z1t rfl rfl rfl rfl) (Zdi) ?_; intro w hb; replace S := S.grow hb; clear hb)) | (refine Z2g ?_; refine Z0n rfl (Z2h S rfl) ?_; rintro _ w ⟨b, rfl, -, S'⟩; replace S := S'; clear S') | (refine Z0n rfl (Z1i S) ?_; rintro _ w ⟨b, rfl, -, S'⟩; replace S := S'; clear S') | (first | (refine Z05 rfl (Z03 (i := 0) S rfl rfl rfl rfl (dqq rfl) (dqq rfl)) ?_; clear S; intro w S) | (refine Z05 rfl (Z03 (i := 1) S rfl rfl rfl rfl (dqq rfl) (dqq rfl)) ?_; clear S; intro w S)) | (refine Z13 rfl rfl (fun h => ?_) (fun h => ?_) <;> (fail_if_success first | have := ntT h | have := ntF h) <;> (try simp only [tdyB] at h) <;> (try (exfalso; omega)) <;> (try (exfalso; simp only [inR, decide_eq_true_eq, decide_eq_false_iff_not, Bool.not_eq_true', Bool.not_eq_false', Int.not_lt, Int.not_le] at *; omega; done))) | (refine Z0g rfl (fun h => ?_) (fun h => ?_) <;> (fail_if_success first | have := ntT h | have := ntF h) <;> (try simp only [tdyB] at h) <;> (try (exfalso; omega)) <;> (try (exfalso; simp only [inR, decide_eq_true_eq, decide_eq_false_iff_not, Bool.not_eq_true', Bool.not_eq_false', Int.not_lt, Int.not_le] at *; omega; done))))
  all_goals exact Z4u rfl rfl rfl S (i := 1) rfl rfl ⟨_, rfl, S.below, hno e rfl⟩
 | true =>
  have hD' := of_decide_eq_true hD
  have hin : inR amount 0 1000000000000 = true := decide_eq_true hD'.2.2
  repeat' (first | refine Z0a ?_ | refine Z02 ?_ | refine Z08 ?_ | refine Z01 ?_ | refine Z0k ?_ | refine Z18 rfl ?_ | refine Z06 rfl ?_ | refine Z04 rfl ?_ | refine Z0t rfl rfl ?_ | refine Z00 rfl (Z0z rfl rfl) ?_ | refine Z00 rfl (Z2x rfl rfl) ?_ | refine Z00 rfl (Z3l rfl rfl rfl rfl rfl rfl rfl) ?_ | refine Z00 rfl (Z1w rfl) ?_ | refine Z00 rfl (Z0e rfl) ?_ | refine Z00 rfl (Z09 rfl) ?_ | ((refine Z00 rfl (Z07 (hr.mono S.below) rfl rfl ?_ ?_) ?_; (first | omega | simp <;> omega); (first | omega | simp <;> omega))) | (first | (refine Z00 rfl (Z19 (hr.mono S.below) rfl ?_ ?_) ?_; (first | omega | simp <;> omega); (first | omega | simp <;> omega)) | refine Z00 rfl (Z0b (i := 0) S rfl rfl rfl) ?_ | refine Z00 rfl (Z0m (i := 0) S rfl rfl rfl rfl) ?_ | refine Z00 rfl (Z0b (i := 2) S rfl rfl rfl) ?_ | refine Z00 rfl (Z0m (i := 3) S rfl rfl rfl rfl) ?_) | ((refine Z0j rfl (Z1t rfl rfl rfl rfl) (Z9l hin) ?_; intro w hb; replace S := S.grow hb; clear hb)) | (refine Z2g ?_; refine Z0n rfl (Z2h S rfl) ?_; rintro _ w ⟨b, rfl, -, S'⟩; replace S := S'; clear S') | (refine Z0n rfl (Z1i S) ?_; rintro _ w ⟨b, rfl, -, S'⟩; replace S := S'; clear S') | (first | (refine Z05 rfl (Z03 (i := 0) S rfl rfl rfl rfl (dqq rfl) (dqq rfl)) ?_; clear S; intro w S) | (refine Z05 rfl (Z03 (i := 1) S rfl rfl rfl rfl (dqq rfl) (dqq rfl)) ?_; clear S; intro w S) | (refine Z05 rfl (Z03 (i := 2) S rfl rfl rfl rfl (dqq rfl) (dqq rfl)) ?_; clear S; intro w S) | (refine Z05 rfl (Z03 (i := 3) S rfl rfl rfl rfl (dqq rfl) (dqq rfl)) ?_; clear S; intro w S)) | (refine Z13 rfl rfl (fun h => ?_) (fun h => ?_) <;> (fail_if_success first | have := ntT h | have := ntF h) <;> (try simp only [tdyB] at h) <;> (try (exfalso; omega)) <;> (try (exfalso; omega; done))))
  obtain ⟨b11, rfl⟩ : ∃ x, x = b := ⟨_, rfl⟩
  obtain ⟨b10, rfl⟩ : ∃ x, x = b := ⟨_, rfl⟩
  obtain ⟨b8, rfl⟩ : ∃ x, x = b := ⟨_, rfl⟩
  obtain ⟨b4, rfl⟩ : ∃ x, x = b := ⟨_, rfl⟩
  replace S : St w0 w [.var b4 27 (bkV acc (.slice A L.length c) cl), .var b8 27 (bkV 0 (.slice none 0 0) 0), .var b10 84 (nth L i).enc, .var b11 84 (Z4n L i day).enc] := S
  refine Z25 rfl (Z0w rfl rfl rfl) (Z8r (acc := acc) (cl := cl) (p := Z4n L i day) (hr.mono S.below) hl) ?_
  rintro r w hb hR
  unfold Z5x at hR
  cases h1 : Z3a acc cl L (Z4n L i day) with
  | false =>
   rw [h1, if_neg (by simp)] at hR
   subst hR
   replace S := S.grow hb
   have e : Z38 acc cl L i day amount = false := by
    unfold Z3a at h1
    unfold Z38
    cases hv : Z2d acc cl L with
    | false => rfl
    | true => rw [hv, Bool.true_and] at h1; rw [h1]; simp
   repeat' (first | refine Z0a ?_ | refine Z02 ?_ | refine Z08 ?_ | refine Z01 ?_ | refine Z0x ?_ | refine Z0r ?_ | refine Z0v rfl ?_ | (refine Z1c ?_; refine Z1p rfl ?_) | refine Z06 rfl ?_ | refine Z04 rfl ?_ | refine Z0u rfl rfl ?_ | refine Z00 rfl (Z33 rfl rfl) ?_ | refine Z00 rfl (Z0y rfl rfl) ?_ | refine Z00 rfl (Z0m (i := 4) S rfl rfl rfl rfl) ?_ | (refine Z0n rfl (Z1i S) ?_; rintro _ w ⟨b, rfl, -, S'⟩; replace S := S'; clear S') | (first | (refine Z05 rfl (Z03 (i := 0) S rfl rfl rfl rfl (dqq rfl) (dqq rfl)) ?_; clear S; intro w S) | (refine Z05 rfl (Z03 (i := 1) S rfl rfl rfl rfl (dqq rfl) (dqq rfl)) ?_; clear S; intro w S) | (refine Z05 rfl (Z03 (i := 2) S rfl rfl rfl rfl (dqq rfl) (dqq rfl)) ?_; clear S; intro w S) | (refine Z05 rfl (Z03 (i := 3) S rfl rfl rfl rfl (dqq rfl) (dqq rfl)) ?_; clear S; intro w S) | (refine Z05 rfl (Z03 (i := 4) S rfl rfl rfl rfl (dqq rfl) (dqq rfl)) ?_; clear S; intro w S)))
   exact Z4u rfl rfl rfl S (i := 1) rfl rfl ⟨_, rfl, S.below, hno e rfl⟩
  | true =>
   rw [h1, if_pos rfl] at hR
   obtain ⟨v1, rfl, S'⟩ := hR
   obtain ⟨A1, c1, hz⟩ := (S'.rdRow (D := Z0o) (i := 0) rfl).len; subst hz
   replace S := S.join S'
   clear S' hb
   unfold Z3a at h1
   rw [Bool.and_eq_true] at h1
   obtain ⟨L1, hL1⟩ : ∃ L1, L ++ [Z4n L i day] = L1 := ⟨_, rfl⟩
   have hv1 : Z2d acc cl L1 = true := by
    rw [← hL1, Zch, h1.1]
    have h2 := h1.2
    unfold Z5d at h2
    rw [Bool.and_eq_true] at h2
    rw [h2.2]; rfl
   have hl1 : L1.length ≤ 200 := Zab (by unfold Z2d at hv1; exact (Bool.and_eq_true_iff.1 hv1).1)
   replace S : St w0 w [.var b4 27 (bkV acc (.slice A L.length c) cl), .var b8 27 (bkV 0 (.slice none 0 0) 0), .var b10 84 (nth L i).enc, .var b11 84 (Z4n L i day).enc, rowP (.slice A1 L1.length c1) L1] := by rw [← hL1]; exact S
   rw [hL1]
   by_cases hm : amount = 0
   ·have e : Z38 acc cl L i day amount = true := by unfold Z38; rw [h1.1, hD, h1.2, decide_eq_true (show amount ≤ 0 by omega)]; simp
    repeat' (first | refine Z0a ?_ | refine Z02 ?_ | refine Z08 ?_ | refine Z01 ?_ | refine Z0x ?_ | refine Z0r ?_ | refine Z06 rfl ?_ | refine Z04 rfl ?_ | refine Z0t rfl rfl ?_ | refine Z00 rfl (Z2k rfl rfl) ?_ | refine Z00 rfl (Z33 rfl rfl) ?_ | refine Z00 rfl (Z0y rfl rfl) ?_ | refine Z00 rfl (Z0m (i := 5) S rfl rfl rfl rfl) ?_ | (refine Z0n rfl (Z1i S) ?_; rintro _ w ⟨b, rfl, -, S'⟩; replace S := S'; clear S') | (first | (refine Z05 rfl (Z03 (i := 0) S rfl rfl rfl rfl (dqq rfl) (dqq rfl)) ?_; clear S; intro w S) | (refine Z05 rfl (Z03 (i := 1) S rfl rfl rfl rfl (dqq rfl) (dqq rfl)) ?_; clear S; intro w S) | (refine Z05 rfl (Z03 (i := 2) S rfl rfl rfl rfl (dqq rfl) (dqq rfl)) ?_; clear S; intro w S) | (refine Z05 rfl (Z03 (i := 3) S rfl rfl rfl rfl (dqq rfl) (dqq rfl)) ?_; clear S; intro w S) | (refine Z05 rfl (Z03 (i := 4) S rfl rfl rfl rfl (dqq rfl) (dqq rfl)) ?_; clear S; intro w S) | (refine Z05 rfl (Z03 (i := 5) S rfl rfl rfl rfl (dqq rfl) (dqq rfl)) ?_; clear S; intro w S)) | (refine Z0g rfl (fun h => ?_) (fun h => ?_) <;> (fail_if_success first | have := ntT h | have := ntF h) <;> (try simp only [tdyB] at h) <;> (try (exfalso; omega)) <;> (try (exfalso; omega; done))))
    refine Z4u rfl rfl rfl S (i := 1) rfl rfl ⟨_, rfl, S.below, ?_⟩
    unfold Z96 Z70
    rw [e, if_pos rfl, if_neg (by omega), hL1]
    exact ⟨_, rfl, S.keep [false, false, false, false, true]⟩
   ·repeat' (first | refine Z0a ?_ | refine Z02 ?_ | refine Z08 ?_ | refine Z01 ?_ | refine Z0k ?_ | refine Z06 rfl ?_ | refine Z04 rfl ?_ | refine Z0t rfl rfl ?_ | refine Z00 rfl (Z2k rfl rfl) ?_ | refine Z00 rfl (Z33 rfl rfl) ?_ | refine Z00 rfl (Z0y rfl rfl) ?_ | refine Z00 rfl (Z09 rfl) ?_ | (first | refine Z00 rfl (Z0m (i := 2) S rfl rfl rfl rfl) ?_ | refine Z00 rfl (Z0m (i := 5) S rfl rfl rfl rfl) ?_) | (refine Z0n rfl (Z1i S) ?_; rintro _ w ⟨b, rfl, -, S'⟩; replace S := S'; clear S') | (first | (refine Z05 rfl (Z03 (i := 0) S rfl rfl rfl rfl (dqq rfl) (dqq rfl)) ?_; clear S; intro w S) | (refine Z05 rfl (Z03 (i := 1) S rfl rfl rfl rfl (dqq rfl) (dqq rfl)) ?_; clear S; intro w S) | (refine Z05 rfl (Z03 (i := 2) S rfl rfl rfl rfl (dqq rfl) (dqq rfl)) ?_; clear S; intro w S) | (refine Z05 rfl (Z03 (i := 3) S rfl rfl rfl rfl (dqq rfl) (dqq rfl)) ?_; clear S; intro w S) | (refine Z05 rfl (Z03 (i := 4) S rfl rfl rfl rfl (dqq rfl) (dqq rfl)) ?_; clear S; intro w S) | (refine Z05 rfl (Z03 (i := 5) S rfl rfl rfl rfl (dqq rfl) (dqq rfl)) ?_; clear S; intro w S)) | (refine Z0g rfl (fun h => ?_) (fun h => ?_) <;> (fail_if_success first | have := ntT h | have := ntF h) <;> (try simp only [tdyB] at h) <;> (try (exfalso; omega)) <;> (try (exfalso; omega; done))))
    obtain ⟨b12, rfl⟩ : ∃ x, x = b := ⟨_, rfl⟩
    replace S : St w0 w [.var b4 27 (bkV acc (.slice A L.length c) cl), .var b8 27 (bkV 0 (.slice none 0 0) 0), .var b10 84 (newP L i day amount).enc, .var b11 84 (Z4n L i day).enc, rowP (.slice A1 L1.length c1) L1, .var b12 27 (bkV acc (.slice A1 L1.length c1) cl)] := S
    refine Z25 rfl (Z0w rfl rfl rfl) (Z8r (acc := acc) (cl := cl) (p := newP L i day amount) (S.rdRow (D := Z0o) (i := 4) rfl) (by omega)) ?_
    rintro r w hb hR
    unfold Z5x at hR
    have eO : Z3a acc cl L1 (newP L i day amount) = Z5d (IntKind.i64.wrap (acc - 1)) cl L1 (newP L i day amount) := by unfold Z3a; rw [hv1, Bool.true_and]
    have eD : Z38 acc cl L i day amount = Z3a acc cl L1 (newP L i day amount) := by unfold Z38; rw [h1.1, hD, h1.2, decide_eq_false (show ¬ amount ≤ 0 by omega), eO, ← hL1]; simp
    cases h2 : Z3a acc cl L1 (newP L i day amount) with
    | false =>
     rw [h2, if_neg (by simp)] at hR
     subst hR
     replace S := S.grow hb
     repeat' (first | refine Z0a ?_ | refine Z02 ?_ | refine Z08 ?_ | refine Z01 ?_ | refine Z0r ?_ | refine Z06 rfl ?_ | refine Z04 rfl ?_ | refine Z00 rfl (Z0y rfl rfl) ?_ | refine Z00 rfl (Z0m (i := 5) S rfl rfl rfl rfl) ?_ | (first | (refine Z05 rfl (Z03 (i := 0) S rfl rfl rfl rfl (dqq rfl) (dqq rfl)) ?_; clear S; intro w S) | (refine Z05 rfl (Z03 (i := 1) S rfl rfl rfl rfl (dqq rfl) (dqq rfl)) ?_; clear S; intro w S) | (refine Z05 rfl (Z03 (i := 2) S rfl rfl rfl rfl (dqq rfl) (dqq rfl)) ?_; clear S; intro w S) | (refine Z05 rfl (Z03 (i := 3) S rfl rfl rfl rfl (dqq rfl) (dqq rfl)) ?_; clear S; intro w S) | (refine Z05 rfl (Z03 (i := 4) S rfl rfl rfl rfl (dqq rfl) (dqq rfl)) ?_; clear S; intro w S) | (refine Z05 rfl (Z03 (i := 5) S rfl rfl rfl rfl (dqq rfl) (dqq rfl)) ?_; clear S; intro w S)))
     exact Z4u rfl rfl rfl S (i := 1) rfl rfl ⟨_, rfl, S.below, hno (eD.trans h2) rfl⟩
    | true =>
     rw [h2, if_pos rfl] at hR
     obtain ⟨v2, rfl, S'⟩ := hR
     obtain ⟨A2, c2, hz⟩ := (S'.rdRow (D := Z0o) (i := 0) rfl).len; subst hz
     replace S := S.join S'
     clear S' hb
     repeat' (first | refine Z0a ?_ | refine Z02 ?_ | refine Z08 ?_ | refine Z01 ?_ | refine Z0r ?_ | refine Z06 rfl ?_ | refine Z04 rfl ?_ | refine Z00 rfl (Z0y rfl rfl) ?_ | refine Z00 rfl (Z0m (i := 5) S rfl rfl rfl rfl) ?_ | (first | (refine Z05 rfl (Z03 (i := 0) S rfl rfl rfl rfl (dqq rfl) (dqq rfl)) ?_; clear S; intro w S) | (refine Z05 rfl (Z03 (i := 1) S rfl rfl rfl rfl (dqq rfl) (dqq rfl)) ?_; clear S; intro w S) | (refine Z05 rfl (Z03 (i := 2) S rfl rfl rfl rfl (dqq rfl) (dqq rfl)) ?_; clear S; intro w S) | (refine Z05 rfl (Z03 (i := 3) S rfl rfl rfl rfl (dqq rfl) (dqq rfl)) ?_; clear S; intro w S) | (refine Z05 rfl (Z03 (i := 4) S rfl rfl rfl rfl (dqq rfl) (dqq rfl)) ?_; clear S; intro w S) | (refine Z05 rfl (Z03 (i := 5) S rfl rfl rfl rfl (dqq rfl) (dqq rfl)) ?_; clear S; intro w S)))
     refine Z4u rfl rfl rfl S (i := 1) rfl rfl ⟨_, rfl, S.below, ?_⟩
     unfold Z96 Z70
     rw [eD.trans h2, if_pos rfl, if_pos (by omega), hL1]
     exact ⟨_, rfl, S.keep [false, false, false, false, false, false, true]⟩
set_option maxHeartbeats 2000000 in
theorem Zih {acc cl mo : Int} {L : List GPosting} {v : Value} {w0 : World} (hr : Rd Z0o.ty w0 v L) (hl : L.length ≤ 1000000) :
  CallsR Tryd.prog 44 #[.agg (bkV acc v cl).toArray, .int .i64 mo] w0 (Zeu w0 acc cl L mo) := by
 have S := St.start w0
 obtain ⟨A, c, rfl⟩ := hr.len
 have hno : ∀ {r w'}, clOk acc cl L mo = false → r = .tuple #[.agg (bkV 0 (.slice none 0 0) 0).toArray, .int .i64 240] → Zeu w0 acc cl L mo r w' := fun h e => by unfold Zeu; rw [h, if_neg (by simp)]; exact e
 refine CallsR.mk ?_
 refine Z0l Tryd.func44 rfl (by intro _ h; first | exact nomatch h.1 | (obtain ⟨_, h, _⟩ := h; exact nomatch h)) Tryd.ntmps44 rfl ?_
 cases hv : Z2d acc cl L with
 | false =>
  have e : clOk acc cl L mo = false := by unfold clOk; rw [hv]; rfl
  repeat' (first | refine Z0a ?_ | refine Z02 ?_ | refine Z08 ?_ | refine Z01 ?_ | refine Z0x ?_ | refine Z0r ?_ | refine Z0v rfl ?_ | (refine Z1c ?_; refine Z1p rfl ?_) | refine Z06 rfl ?_ | refine Z04 rfl ?_ | refine Z0u rfl rfl ?_ | refine Z00 rfl (Z59 ) ?_ | refine Z00 rfl (Z1w rfl) ?_ | refine Z00 rfl (Z0m (i := 0) S rfl rfl rfl rfl) ?_ | ((refine Z0j rfl (Z1h rfl rfl) (Z4z hv (hr.mono S.below) (by omega)) ?_; intro w hb; replace S := S.grow hb; clear hb)) | (refine Z2g ?_; refine Z0n rfl (Z2h S rfl) ?_; rintro _ w ⟨b, rfl, -, S'⟩; replace S := S'; clear S') | (refine Z0n rfl (Z1i S) ?_; rintro _ w ⟨b, rfl, -, S'⟩; replace S := S'; clear S') | (first | (refine Z05 rfl (Z03 (i := 0) S rfl rfl rfl rfl (dqq rfl) (dqq rfl)) ?_; clear S; intro w S) | (refine Z05 rfl (Z03 (i := 1) S rfl rfl rfl rfl (dqq rfl) (dqq rfl)) ?_; clear S; intro w S)))
  exact Z4u rfl rfl rfl S (i := 1) rfl rfl ⟨_, rfl, S.below, hno e rfl⟩
 | true =>
 by_cases hm : mo = cl
 ·cases hI : inR mo 0 11 with
  | false =>
   have e : clOk acc cl L mo = false := by unfold clOk; rw [hI]; simp
   repeat' (first | refine Z0a ?_ | refine Z02 ?_ | refine Z08 ?_ | refine Z01 ?_ | refine Z0x ?_ | refine Z0r ?_ | refine Z0v rfl ?_ | refine Z06 rfl ?_ | refine Z04 rfl ?_ | refine Z0t rfl rfl ?_ | refine Z00 rfl (Z33 rfl rfl) ?_ | refine Z00 rfl (Z59 ) ?_ | refine Z00 rfl (Z1w rfl) ?_ | refine Z00 rfl (Z09 rfl) ?_ | (first | refine Z00 rfl (Z0b (i := 0) S rfl rfl rfl) ?_ | refine Z00 rfl (Z0m (i := 0) S rfl rfl rfl rfl) ?_) | (first | (refine Z0j rfl (Z1h rfl rfl) (Z4z hv (hr.mono S.below) (by omega)) ?_; intro w hb; replace S := S.grow hb; clear hb) | (refine Z0j rfl (Z1t rfl rfl rfl rfl) (Z9l hI) ?_; intro w hb; replace S := S.grow hb; clear hb)) | (refine Z2g ?_; refine Z0n rfl (Z2h S rfl) ?_; rintro _ w ⟨b, rfl, -, S'⟩; replace S := S'; clear S') | (refine Z0n rfl (Z1i S) ?_; rintro _ w ⟨b, rfl, -, S'⟩; replace S := S'; clear S') | (first | (refine Z05 rfl (Z03 (i := 0) S rfl rfl rfl rfl (dqq rfl) (dqq rfl)) ?_; clear S; intro w S) | (refine Z05 rfl (Z03 (i := 1) S rfl rfl rfl rfl (dqq rfl) (dqq rfl)) ?_; clear S; intro w S)) | (refine Z13 rfl rfl (fun h => ?_) (fun h => ?_) <;> (fail_if_success first | have := ntT h | have := ntF h) <;> (try simp only [tdyB] at h) <;> (try (exfalso; omega)) <;> (try (exfalso; omega; done))))
   exact Z4u rfl rfl rfl S (i := 1) rfl rfl ⟨_, rfl, S.below, hno e rfl⟩
  | true =>
   have e : clOk acc cl L mo = true := by unfold clOk; rw [hv, hI, decide_eq_true hm]; rfl
   have hmr : 0 ≤ mo ∧ mo ≤ 11 := of_decide_eq_true hI
   repeat' (first | refine Z0a ?_ | refine Z02 ?_ | refine Z08 ?_ | refine Z01 ?_ | refine Z0k ?_ | refine Z18 rfl ?_ | refine Z06 rfl ?_ | refine Z04 rfl ?_ | refine Z0t rfl rfl ?_ | refine Z00 rfl (Z33 rfl rfl) ?_ | refine Z00 rfl (Z1w rfl) ?_ | refine Z00 rfl (Z09 rfl) ?_ | (first | refine Z00 rfl (Z0b (i := 0) S rfl rfl rfl) ?_ | refine Z00 rfl (Z0m (i := 0) S rfl rfl rfl rfl) ?_) | (first | (refine Z0j rfl (Z1h rfl rfl) (Z4z hv (hr.mono S.below) (by omega)) ?_; intro w hb; replace S := S.grow hb; clear hb) | (refine Z0j rfl (Z1t rfl rfl rfl rfl) (Z9l hI) ?_; intro w hb; replace S := S.grow hb; clear hb)) | (refine Z2g ?_; refine Z0n rfl (Z2h S rfl) ?_; rintro _ w ⟨b, rfl, -, S'⟩; replace S := S'; clear S') | (refine Z0n rfl (Z1i S) ?_; rintro _ w ⟨b, rfl, -, S'⟩; replace S := S'; clear S') | (first | (refine Z05 rfl (Z03 (i := 0) S rfl rfl rfl rfl (dqq rfl) (dqq rfl)) ?_; clear S; intro w S) | (refine Z05 rfl (Z03 (i := 1) S rfl rfl rfl rfl (dqq rfl) (dqq rfl)) ?_; clear S; intro w S) | (refine Z05 rfl (Z03 (i := 2) S rfl rfl rfl rfl (dqq rfl) (dqq rfl)) ?_; clear S; intro w S)) | (refine Z13 rfl rfl (fun h => ?_) (fun h => ?_) <;> (fail_if_success first | have := ntT h | have := ntF h) <;> (try simp only [tdyB] at h) <;> (try (exfalso; omega)) <;> (try (exfalso; omega; done))))
   refine Z0n rfl (Z9e (D := Z0o) S) ?_
   rintro vn w ⟨-, S'⟩; replace S := S'; clear S'
   repeat' (first | refine Z00 rfl (Z09 rfl) ?_ | refine Z00 rfl (Z0b (i := 0) S rfl rfl rfl) ?_)
   refine Z0n rfl (Z3j (D := Z0o) (i := 3) S rfl (hr.mono S.below) rfl rfl rfl (by decide) Z6b (by simp; omega) (by simp; omega)) ?_
   rintro va w ⟨-, S'⟩; replace S := S'; clear S'
   obtain ⟨A2, c2, hz⟩ := (S.rdRow (D := Z0o) (i := 3) rfl).len; subst hz
   repeat' (first | refine Z0a ?_ | refine Z02 ?_ | refine Z08 ?_ | refine Z01 ?_ | refine Z0r ?_ | refine Z06 rfl ?_ | refine Z04 rfl ?_ | ((refine Z00 rfl (Z12 rfl rfl ?_ ?_) ?_; (first | omega | simp <;> omega); (first | omega | simp <;> omega))) | refine Z00 rfl (Z09 rfl) ?_ | refine Z00 rfl (Z0m (i := 2) S rfl rfl rfl rfl) ?_ | (first | (refine Z05 rfl (Z03 (i := 0) S rfl rfl rfl rfl (dqq rfl) (dqq rfl)) ?_; clear S; intro w S) | (refine Z05 rfl (Z03 (i := 1) S rfl rfl rfl rfl (dqq rfl) (dqq rfl)) ?_; clear S; intro w S) | (refine Z05 rfl (Z03 (i := 2) S rfl rfl rfl rfl (dqq rfl) (dqq rfl)) ?_; clear S; intro w S)))
   refine Z4u rfl rfl rfl S (i := 1) rfl rfl ⟨_, rfl, S.below, ?_⟩
   unfold Zeu
   rw [e, if_pos rfl]
   exact ⟨_, rfl, S.keep [false, false, false, true]⟩
 ·have e : clOk acc cl L mo = false := by unfold clOk; rw [decide_eq_false hm]; simp
  repeat' (first | refine Z0a ?_ | refine Z02 ?_ | refine Z08 ?_ | refine Z01 ?_ | refine Z0x ?_ | refine Z0r ?_ | refine Z0v rfl ?_ | (refine Z1c ?_; refine Z1p rfl ?_) | refine Z06 rfl ?_ | refine Z04 rfl ?_ | (first | refine Z0u rfl rfl ?_ | refine Z0t rfl rfl ?_) | refine Z00 rfl (Z33 rfl rfl) ?_ | refine Z00 rfl (Z59 ) ?_ | refine Z00 rfl (Z1w rfl) ?_ | refine Z00 rfl (Z09 rfl) ?_ | (first | refine Z00 rfl (Z0b (i := 0) S rfl rfl rfl) ?_ | refine Z00 rfl (Z0m (i := 0) S rfl rfl rfl rfl) ?_) | ((refine Z0j rfl (Z1h rfl rfl) (Z4z hv (hr.mono S.below) (by omega)) ?_; intro w hb; replace S := S.grow hb; clear hb)) | (refine Z2g ?_; refine Z0n rfl (Z2h S rfl) ?_; rintro _ w ⟨b, rfl, -, S'⟩; replace S := S'; clear S') | (refine Z0n rfl (Z1i S) ?_; rintro _ w ⟨b, rfl, -, S'⟩; replace S := S'; clear S') | (first | (refine Z05 rfl (Z03 (i := 0) S rfl rfl rfl rfl (dqq rfl) (dqq rfl)) ?_; clear S; intro w S) | (refine Z05 rfl (Z03 (i := 1) S rfl rfl rfl rfl (dqq rfl) (dqq rfl)) ?_; clear S; intro w S)) | (refine Z13 rfl rfl (fun h => ?_) (fun h => ?_) <;> (fail_if_success first | have := ntT h | have := ntF h) <;> (try simp only [tdyB] at h) <;> (try (exfalso; omega)) <;> (try (exfalso; omega; done))))
  all_goals exact Z4u rfl rfl rfl S (i := 1) rfl rfl ⟨_, rfl, S.below, hno e rfl⟩

def HitT (vs : List GVerdict) (fr item t : Int) : Prop := fr ≤ t ∧ t < fr + vs.length ∧ nth vs (t - fr) = ⟨1, item⟩
theorem Zhf {vs : List GVerdict} {fr item a b : Int} {bb : Bool} {v : Value} {w0 : World} (h : (∃ t, a ≤ t ∧ t < b ∧ HitT vs fr item t) ↔ bb = true) (hr : Rd Z1j.ty w0 v vs) (hl : vs.length ≤ 1000000000) (hfr : 0 ≤ fr ∧ fr ≤ 1000000000) (ha : -1000000000 ≤ a ∧ a ≤ 1000000000) (hb : b ≤ 2000000000) :
  CallsV Tryd.prog 32 #[v, .int .i64 fr, .int .i64 item, .int .i64 a, .int .i64 b] w0 (.bool bb) := by
 have S := St.start w0
 obtain ⟨A, c, rfl⟩ := hr.len
 refine CallsV.mk ?_
 refine Z0l Tryd.func32 rfl (by intro _ h; first | exact nomatch h.1 | (obtain ⟨_, h, _⟩ := h; exact nomatch h)) Tryd.ntmps32 rfl ?_
 repeat' (first | refine Z0a ?_ | refine Z02 ?_ | refine Z08 ?_ | refine Z01 ?_ | refine Z0f ?_ | refine Z06 rfl ?_ | refine Z04 rfl ?_)
 refine Z1l (fun m σ w1 => ∃ (i : Int), Has σ [(0, .slice A vs.length c), (1, .int .i64 fr), (2, .int .i64 item), (4, .int .i64 b), (11, .int .i64 i)] ∧ St w0 w1 [] ∧ a ≤ i ∧ (∀ t, a ≤ t → t < i → ¬ HitT vs fr item t) ∧ m = (b - i).toNat) (b - a).toNat ⟨a, ⟨rfl, rfl, rfl, rfl, rfl, trivial⟩, S, by omega, fun t p q => by omega, rfl⟩ ?_
 clear S
 rintro m σ w1 ⟨i, hs, S, hi0, hno, rfl⟩
 refine Z1o hs ?_
 by_cases hi : i < b
 ·by_cases hin : fr ≤ i ∧ i < fr + vs.length
  ·by_cases hv : nth vs (i - fr) = ⟨1, item⟩
   ·have e : bb = true := h.1 ⟨i, hi0, hi, hin.1, hin.2, hv⟩
    repeat' (first | refine Z0a ?_ | refine Z02 ?_ | refine Z08 ?_ | refine Z01 ?_ | refine Z0x ?_ | refine Z27 ?_ | refine Z0r ?_ | refine Z0k ?_ | refine Z0f ?_ | refine Z06 rfl ?_ | refine Z04 rfl ?_ | refine Z0u rfl rfl ?_ | ((refine Z00 rfl (Z12 rfl rfl ?_ ?_) ?_; (first | omega | simp <;> omega); (first | omega | simp <;> omega))) | ((refine Z00 rfl (Z24 rfl rfl ?_ ?_) ?_; (first | omega | simp <;> omega); (first | omega | simp <;> omega))) | refine Z00 rfl (eql60 rfl rfl) ?_ | refine Z00 rfl (Z0z rfl rfl) ?_ | refine Z00 rfl (Z2x rfl rfl) ?_ | refine Z00 rfl (Z4j rfl rfl) ?_ | refine Z00 rfl (Z0e rfl) ?_ | ((refine Z00 rfl (Z07 (hr.mono S.below) rfl rfl ?_ ?_) ?_; (first | omega | simp <;> omega); (first | omega | simp <;> omega))) | ((refine Z00 rfl (Z19 (hr.mono S.below) rfl ?_ ?_) ?_; (first | omega | simp <;> omega); (first | omega | simp <;> omega))) | (refine Z13 rfl rfl (fun h => ?_) (fun h => ?_) <;> (fail_if_success first | have := ntT h | have := ntF h) <;> (try simp only [tdyB] at h) <;> (try (exfalso; omega)) <;> (try (exfalso; exact absurd hv h; done))) | (refine Z0g rfl (fun h => ?_) (fun h => ?_) <;> (fail_if_success first | have := ntT h | have := ntF h) <;> (try simp only [tdyB] at h) <;> (try (exfalso; omega)) <;> (try (exfalso; exact absurd hv h; done))))
    exact end1 rfl rfl ⟨rb e.symm, S.below⟩
   ·repeat' (first | refine Z0a ?_ | refine Z02 ?_ | refine Z08 ?_ | refine Z01 ?_ | refine Z0h ?_ | refine Z0k ?_ | refine Z0f ?_ | refine Z06 rfl ?_ | refine Z04 rfl ?_ | refine Z0u rfl rfl ?_ | ((refine Z00 rfl (Z12 rfl rfl ?_ ?_) ?_; (first | omega | simp <;> omega); (first | omega | simp <;> omega))) | ((refine Z00 rfl (Z24 rfl rfl ?_ ?_) ?_; (first | omega | simp <;> omega); (first | omega | simp <;> omega))) | refine Z00 rfl (eql60 rfl rfl) ?_ | refine Z00 rfl (Z0z rfl rfl) ?_ | refine Z00 rfl (Z2x rfl rfl) ?_ | refine Z00 rfl (Z4j rfl rfl) ?_ | refine Z00 rfl (Z0e rfl) ?_ | ((refine Z00 rfl (Z07 (hr.mono S.below) rfl rfl ?_ ?_) ?_; (first | omega | simp <;> omega); (first | omega | simp <;> omega))) | ((refine Z00 rfl (Z19 (hr.mono S.below) rfl ?_ ?_) ?_; (first | omega | simp <;> omega); (first | omega | simp <;> omega))) | (refine Z13 rfl rfl (fun h => ?_) (fun h => ?_) <;> (fail_if_success first | have := ntT h | have := ntF h) <;> (try simp only [tdyB] at h) <;> (try (exfalso; omega)) <;> (try (exfalso; exact absurd h hv; done))) | (refine Z0g rfl (fun h => ?_) (fun h => ?_) <;> (fail_if_success first | have := ntT h | have := ntF h) <;> (try simp only [tdyB] at h) <;> (try (exfalso; omega)) <;> (try (exfalso; exact absurd h hv; done))))
    refine ⟨⟨_, ?_, i + 1, ⟨rfl, rfl, rfl, rfl, rfl, trivial⟩, S, by omega, fun t p q => ?_, rfl⟩⟩
    ·omega
    ·by_cases e : t = i
     ·subst e; exact fun hh => hv hh.2.2
     ·exact hno t p (by omega)
  ·repeat' (first | refine Z0a ?_ | refine Z02 ?_ | refine Z08 ?_ | refine Z01 ?_ | refine Z0h ?_ | refine Z0k ?_ | refine Z0f ?_ | refine Z18 rfl ?_ | (refine Z1c ?_; refine Z1p rfl ?_) | refine Z06 rfl ?_ | refine Z04 rfl ?_ | (first | refine Z0u rfl rfl ?_ | refine Z0t rfl rfl ?_) | ((refine Z00 rfl (Z12 rfl rfl ?_ ?_) ?_; (first | omega | simp <;> omega); (first | omega | simp <;> omega))) | refine Z00 rfl (Z0z rfl rfl) ?_ | refine Z00 rfl (Z2x rfl rfl) ?_ | refine Z00 rfl (Z0e rfl) ?_ | (refine Z13 rfl rfl (fun h => ?_) (fun h => ?_) <;> (fail_if_success first | have := ntT h | have := ntF h) <;> (try simp only [tdyB] at h) <;> (try (exfalso; omega))) | (refine Z0g rfl (fun h => ?_) (fun h => ?_) <;> (fail_if_success first | have := ntT h | have := ntF h) <;> (try simp only [tdyB] at h) <;> (try (exfalso; omega))))
   all_goals
    refine ⟨⟨_, ?_, i + 1, ⟨rfl, rfl, rfl, rfl, rfl, trivial⟩, S, by omega, fun t p q => ?_, rfl⟩⟩
    ·omega
    ·by_cases e : t = i
     ·subst e; exact fun hh => hin ⟨hh.1, hh.2.1⟩
     ·exact hno t p (by omega)
 ·have e : bb = false := by
   cases bb with
   | false => rfl
   | true =>
    obtain ⟨t, p, q, hh⟩ := h.2 rfl
    exact absurd hh (hno t p (by omega))
  repeat' (first | refine Z0a ?_ | refine Z02 ?_ | refine Z08 ?_ | refine Z01 ?_ | refine Z0s ?_ | refine Z15 ?_ | refine Z0r ?_ | refine Z1b ?_ | refine Z06 rfl ?_ | refine Z04 rfl ?_ | refine Z00 rfl (Z0z rfl rfl) ?_ | (refine Z0g rfl (fun h => ?_) (fun h => ?_) <;> (fail_if_success first | have := ntT h | have := ntF h) <;> (try simp only [tdyB] at h) <;> (try (exfalso; omega))))
  exact end1 rfl rfl ⟨rb e.symm, S.below⟩
theorem mem_cutV {vs : List GVerdict} {lo hi : Int} {x : GVerdict} (h0 : 0 ≤ lo) : ((vs.take hi.toNat).drop lo.toNat).any (fun y => decide (x = y)) = true ↔ ∃ j : Int, lo ≤ j ∧ j < hi ∧ j < vs.length ∧ nth vs j = x := by
 rw [List.any_eq_true]
 constructor
 ·rintro ⟨y, hy, hd⟩
  have hd := of_decide_eq_true hd
  subst hd
  obtain ⟨k, hk⟩ := List.getElem?_of_mem hy
  have hlt := (List.getElem?_eq_some_iff.1 hk).1
  rw [List.length_drop, List.length_take] at hlt
  rw [List.getElem?_drop, List.getElem?_take_of_lt (by omega)] at hk
  refine ⟨lo + k, by omega, by omega, by omega, ?_⟩
  have h2 := Z1u (l := vs) (i := lo + k) (by omega) (by omega)
  rw [show (lo + (k : Int)).toNat = lo.toNat + k by omega, hk] at h2
  exact (Option.some.inj h2).symm
 ·rintro ⟨j, h1, h2, h3, rfl⟩
  refine ⟨_, ?_, decide_eq_true rfl⟩
  have hg := Z1u (l := vs) (i := j) (by omega) h3
  refine List.mem_of_getElem? (i := j.toNat - lo.toNat) ?_
  rw [List.getElem?_drop, List.getElem?_take_of_lt (by omega), show lo.toNat + (j.toNat - lo.toNat) = j.toNat by omega]
  exact hg
theorem Zii {vs : List GVerdict} {d item : Int} : Z6a vs d item = true ↔ ∃ j : Int, max d 0 ≤ j ∧ j < d + 10 ∧ j < vs.length ∧ nth vs j = ⟨1, item⟩ := by
 unfold Z6a
 rw [mem_cutV (by omega)]
 constructor
 ·rintro ⟨j, h1, h2, h3, h4⟩; exact ⟨j, h1, by omega, h3, h4⟩
 ·rintro ⟨j, h1, h2, h3, h4⟩; exact ⟨j, h1, by omega, h3, h4⟩
theorem Zhg {vs : List GVerdict} {fr item a : Int} : (∃ t, a ≤ t ∧ t < a + 10 ∧ HitT vs fr item t) ↔ Z6a vs (a - fr) item = true := by
 rw [Zii]
 constructor
 ·rintro ⟨t, h1, h2, h3, h4, h5⟩; exact ⟨t - fr, by omega, by omega, by omega, h5⟩
 ·rintro ⟨j, h1, h2, h3, h4⟩; exact ⟨j + fr, by omega, by omega, by omega, by omega, by rw [show j + fr - fr = j by omega]; exact h4⟩

def Z9b (l : List GContract) (item x : Int) : GVerdict :=
 if Z26 x 5 = 1 ∧ 0 < (l.length : Int) then ⟨1, (nth l (Z26 (x.tdiv 5) l.length)).Item⟩ else if Z26 x 5 = 2 ∨ Z26 x 5 = 3 then ⟨2 + Z26 (x.tdiv 5) 3, 0⟩ else ⟨1, item⟩
def Zg0 (sp : List GSpot) (which : Int) : GSpot := nth sp (Z26 which sp.length)
def frV (sp : List GSpot) (which : Int) : Int := if 0 < (sp.length : Int) then max ((Zg0 sp which).At - Z26 (which.tdiv 7) 12) 0 else 0
def itV (l : List GContract) (sp : List GSpot) (which : Int) : Int := if 0 < (sp.length : Int) ∧ 0 ≤ Z9o l (Zg0 sp which).Contract then (nth l (Z9o l (Zg0 sp which).Contract)).Item else 0
def verN (l : List GContract) (item : Int) (xs : List Int) (n : Nat) : List GVerdict := (List.range n).map fun (i : Nat) => Z9b l item (nth xs (i : Int))
def verL (l : List GContract) (sp : List GSpot) (which : Int) (xs : List Int) : List GVerdict := verN l (itV l sp which) xs (min xs.length 40)
theorem Z8s {l : List GContract} {item : Int} {xs : List Int} {n : Nat} : verN l item xs (n + 1) = verN l item xs n ++ [Z9b l item (nth xs (n : Int))] := by unfold verN; rw [List.range_succ, List.map_append]; rfl
theorem Zhh {l : List GContract} {item : Int} {xs : List Int} {n : Nat} : (verN l item xs n).length = n := by simp [verN]
theorem tdivk {x : Int} {k : Int} (hk : 1 < k) (h0 : -9223372036854775808 ≤ x) (h1 : x ≤ 9223372036854775807) : -9223372036854775808 ≤ x.tdiv k ∧ x.tdiv k ≤ 9223372036854775807 := by
 rcases Int.le_total 0 x with h | h
 ·rw [Int.tdiv_eq_ediv_of_nonneg h]
  have a1 := Int.ediv_nonneg h (show 0 ≤ k by omega)
  have a2 := Int.ediv_le_self k h
  omega
 ·have e : x.tdiv k = -((-x).tdiv k) := by rw [Int.neg_tdiv, Int.neg_neg]
  have hh : 0 ≤ -x := by omega
  rw [e, Int.tdiv_eq_ediv_of_nonneg hh]
  have a1 := Int.ediv_nonneg hh (show 0 ≤ k by omega)
  have a2 := Int.ediv_le_self k hh
  omega
theorem Zhi {l : List GContract} (h : Z2v l = true) {c : GContract} (hc : c ∈ l) : 0 ≤ c.Item ∧ c.Item ≤ 199 := by
 have := Z6g h hc
 unfold okC okN at this
 simp only [Bool.and_eq_true, decide_eq_true_eq] at this
 omega
theorem itV_rng {l : List GContract} (h : Z2v l = true) {sp : List GSpot} {which : Int} : 0 ≤ itV l sp which ∧ itV l sp which ≤ 199 := by
 unfold itV
 split
 ·rename_i hc
  rcases Z7c l (Zg0 sp which).Contract with ⟨e, _⟩ | ⟨h0, h1, _⟩
  ·omega
  ·exact Zhi h (Z2e h0 h1)
 ·omega
theorem verdB_ok {l : List GContract} (h : Z2v l = true) {item x : Int} (hi : 0 ≤ item ∧ item ≤ 199) : badV (Z9b l item x) = false := by
 have r3 := Z1m (c := x.tdiv 5) (n := 3) (by omega)
 unfold Z9b badV
 split
 ·rename_i hc
  have rl := Z1m (c := x.tdiv 5) (n := (l.length : Int)) hc.2
  have := Zhi h (Z2e rl.1 rl.2)
  rw [decide_eq_false_iff_not]; simp only; omega
 ·split
  ·rw [decide_eq_false_iff_not]
   exact fun hh => hh ⟨(by show (1 : Int) ≤ 2 + _; omega), (by show 2 + _ ≤ (4 : Int); omega), Int.le_refl _, (by show (0 : Int) ≤ 199; decide), fun _ => rfl⟩
  ·rw [decide_eq_false_iff_not]
   exact fun hh => hh ⟨Int.le_refl _, (by show (1 : Int) ≤ 4; decide), hi.1, hi.2, fun h => absurd rfl h⟩
theorem Zl6 {vs : List GVerdict} (hl : vs.length ≤ 200) (h : ∀ x ∈ vs, badV x = false) : Z3m vs = true := by
 unfold Z3m
 rw [decide_eq_true hl, Bool.true_and, Bool.not_eq_true', List.any_eq_false]
 exact fun x hx => by rw [h x hx]; simp
theorem verL_ok {l : List GContract} (h : Z2v l = true) {sp : List GSpot} {which : Int} {xs : List Int} : Z3m (verL l sp which xs) = true := by
 refine Zl6 (by unfold verL; rw [Zhh]; omega) fun x hx => ?_
 unfold verL verN at hx
 obtain ⟨k, _, rfl⟩ := List.mem_map.1 hx
 exact verdB_ok h (itV_rng h)
theorem Zhj : ∀ (x : GVerdict), ∀ u ∈ Z1j.enc x, u.oneCell' = true := by intro x u hu; simp [Z1j, GVerdict.enc] at hu; rcases hu with rfl | rfl <;> rfl
set_option maxHeartbeats 2000000 in
theorem verd_run {l : List GContract} {sp : List GSpot} {which : Int} {xs : List Int} {v1 v2 v3 : Value} {w0 : World} (hr1 : Rd Z14.ty w0 v1 l) (hr2 : Rd Z1d.ty w0 v2 sp) (hw : inI which) (hr3 : Rd (fInt .i64).ty w0 v3 xs) (hx : ∀ x ∈ xs, inI x) (hl1 : l.length ≤ 1000000000) (hl2 : sp.length ≤ 1000000000) (hl3 : xs.length ≤ maxLen) (hok : okI l sp = true) :
  CallsR Tryd.prog 13 #[v1, v2, .int .i64 which, v3] w0 (fun r w' => ∃ vo, r = .tuple #[vo, .int .i64 (frV sp which)] ∧ Z2u Z1j 60 w0 w' vo (verL l sp which xs)) := by
 have S := St.start w0
 have hml : maxLen ≤ 9223372036854775807 := by decide
 obtain ⟨A, c, rfl⟩ := hr1.len
 obtain ⟨A2, c2, rfl⟩ := hr2.len
 obtain ⟨A3, c3, rfl⟩ := hr3.len
 have hsp := Zkc hok
 have hw0 : -9223372036854775808 ≤ which := hw.1
 have hw1 : which ≤ 9223372036854775807 := hw.2
 refine CallsR.mk ?_
 refine Z0l Tryd.func13 rfl (by intro _ h; first | exact nomatch h.1 | (obtain ⟨_, h, _⟩ := h; exact nomatch h)) Tryd.ntmps13 rfl ?_
 repeat' (first | refine Z0a ?_ | refine Z02 ?_ | refine Z08 ?_ | refine Z01 ?_ | refine Z06 rfl ?_ | refine Z04 rfl ?_ | refine Z00 rfl (Z2o rfl rfl) ?_ | refine Z00 rfl (Z0e rfl) ?_)
 refine Z2c (fun σ w1 => ∃ (fr item : Int), Has σ [(0, .slice A l.length c), (3, .slice A3 xs.length c3), (10, .int .i64 fr), (11, .int .i64 item)] ∧ St w0 w1 [] ∧ fr = frV sp which ∧ item = itV l sp which) ?_ ?_
 ·by_cases h0 : 0 < (sp.length : Int)
  ·have rl := Z1m (c := which) (n := (sp.length : Int)) h0
   have r12 := Z1m (c := which.tdiv 7) (n := 12) (by omega)
   have hat := hsp _ (Z2e rl.1 rl.2)
   have t7 := tdivk (k := 7) (by omega) hw.1 hw.2
   have efr : frV sp which = max ((nth sp (Z26 which sp.length)).At - Z26 (which.tdiv 7) 12) 0 := by unfold frV Zg0; rw [if_pos h0]
   rcases Z7c l (nth sp (Z26 which sp.length)).Contract with ⟨e, _⟩ | ⟨e0, e1, _⟩
   ·have eit : itV l sp which = 0 := by unfold itV Zg0; rw [if_neg (by omega)]
    repeat' (first | refine Z0a ?_ | refine Z02 ?_ | refine Z08 ?_ | refine Z01 ?_ | refine Z0k ?_ | refine Z1s (by kernel_rfl) (by kernel_rfl) ?_ | (refine Z1q ?_; intro w hb; replace S := S.grow hb; clear hb) | refine Z06 rfl ?_ | refine Z04 rfl ?_ | refine Z00 rfl (Z2x rfl rfl) ?_ | refine Z00 rfl (Z0e rfl) ?_ | refine Z00 rfl (Z09 rfl) ?_ | ((refine Z00 rfl (Z07 (hr2.mono S.below) rfl rfl ?_ ?_) ?_; (first | omega | simp <;> omega); (first | omega | simp <;> omega))) | (first | (refine Z00 rfl (Z19 (hr2.mono S.below) rfl ?_ ?_) ?_; (first | omega | simp <;> omega); (first | omega | simp <;> omega)) | refine Z00 rfl (Z0b (i := 0) S rfl rfl rfl) ?_) | (first | (refine Z0j rfl (Z0w rfl rfl rfl) (Z4e hw.1 hw.2 h0) ?_; intro w hb; replace S := S.grow hb; clear hb) | (refine Z0j rfl (Z0w rfl rfl rfl) (Zba (hr1.mono S.below) hl1) ?_; intro w hb; replace S := S.grow hb; clear hb)) | (refine Z1e ?_; refine Z1r rfl ?_) | (refine Z42 ?_; refine Z4g rfl ?_) | (refine Z2f ?_; (refine Z0c rfl (fun w' hb => Z24 rfl rfl ?_ ?_) ?_; (first | omega | simp <;> omega); (first | omega | simp <;> omega))) | (refine Zco ?_; (refine Z0c rfl (fun w' hb => Zdx rfl rfl ?_ ?_ ?_) ?_; (first | omega | simp <;> omega); (first | omega | simp <;> omega); (first | omega | simp <;> omega))) | (refine Z6d ?_; refine Z0c rfl (fun w' hb => Z6k rfl rfl) ?_) | (refine Z10 ?_; refine Z0c rfl (fun w' hb => Z09 rfl) ?_) | (refine Z1f ?_; refine Z0c rfl (fun w' hb => Z0b (i := 0) (S.grow hb) rfl rfl rfl) ?_) | (refine Z1v ?_; refine Z20 rfl (fun w' hb => Z0w rfl rfl rfl) (fun w' hb => Z4e (c := which.tdiv 7) (n := 12) t7.1 t7.2 (by omega)) ?_) | (refine Z0n rfl (Z1i S) ?_; rintro _ w ⟨b, rfl, -, S'⟩; replace S := S'; clear S') | ((refine Z05 rfl (Z03 (i := 0) S rfl rfl rfl rfl (dqq rfl) (dqq rfl)) ?_; clear S; intro w S)) | (refine Z0g rfl (fun h => ?_) (fun h => ?_) <;> (fail_if_success first | have := ntT h | have := ntF h) <;> (try simp only [tdyB] at h) <;> (try (exfalso; omega)) <;> (try (exfalso; omega; done))))
    exact ⟨_, _, ⟨rfl, rfl, rfl, rfl, trivial⟩, S.keep [], efr.symm, eit.symm⟩
   ·have eit : itV l sp which = (nth l (Z9o l (nth sp (Z26 which sp.length)).Contract)).Item := by unfold itV Zg0; rw [if_pos ⟨h0, e0⟩]
    repeat' (first | refine Z0a ?_ | refine Z02 ?_ | refine Z08 ?_ | refine Z01 ?_ | refine Z1s (by kernel_rfl) (by kernel_rfl) ?_ | (refine Z1q ?_; intro w hb; replace S := S.grow hb; clear hb) | refine Z06 rfl ?_ | refine Z04 rfl ?_ | refine Z00 rfl (Z2x rfl rfl) ?_ | refine Z00 rfl (Z0e rfl) ?_ | (first | refine Z00 rfl (Z09 rfl) ?_ | refine Z00 rfl (Z1g rfl) ?_) | (first | (refine Z00 rfl (Z07 (hr2.mono S.below) rfl rfl ?_ ?_) ?_; (first | omega | simp <;> omega); (first | omega | simp <;> omega)) | (refine Z00 rfl (Z07 (hr1.mono S.below) rfl rfl ?_ ?_) ?_; (first | omega | simp <;> omega); (first | omega | simp <;> omega))) | (first | (refine Z00 rfl (Z19 (hr2.mono S.below) rfl ?_ ?_) ?_; (first | omega | simp <;> omega); (first | omega | simp <;> omega)) | (refine Z00 rfl (Z11 (hr1.mono S.below) rfl ?_ ?_ rfl) ?_; (first | omega | simp <;> omega); (first | omega | simp <;> omega)) | refine Z00 rfl (Z0b (i := 0) S rfl rfl rfl) ?_) | (first | (refine Z0j rfl (Z0w rfl rfl rfl) (Z4e hw.1 hw.2 h0) ?_; intro w hb; replace S := S.grow hb; clear hb) | (refine Z0j rfl (Z0w rfl rfl rfl) (Zba (hr1.mono S.below) hl1) ?_; intro w hb; replace S := S.grow hb; clear hb)) | (refine Z1e ?_; refine Z1r rfl ?_) | (refine Z42 ?_; refine Z4g rfl ?_) | (refine Z2f ?_; (refine Z0c rfl (fun w' hb => Z24 rfl rfl ?_ ?_) ?_; (first | omega | simp <;> omega); (first | omega | simp <;> omega))) | (refine Zco ?_; (refine Z0c rfl (fun w' hb => Zdx rfl rfl ?_ ?_ ?_) ?_; (first | omega | simp <;> omega); (first | omega | simp <;> omega); (first | omega | simp <;> omega))) | (refine Z6d ?_; refine Z0c rfl (fun w' hb => Z6k rfl rfl) ?_) | (refine Z10 ?_; refine Z0c rfl (fun w' hb => Z09 rfl) ?_) | (refine Z1f ?_; refine Z0c rfl (fun w' hb => Z0b (i := 0) (S.grow hb) rfl rfl rfl) ?_) | (refine Z1v ?_; refine Z20 rfl (fun w' hb => Z0w rfl rfl rfl) (fun w' hb => Z4e (c := which.tdiv 7) (n := 12) t7.1 t7.2 (by omega)) ?_) | (refine Z0n rfl (Z1i S) ?_; rintro _ w ⟨b, rfl, -, S'⟩; replace S := S'; clear S') | ((refine Z05 rfl (Z03 (i := 0) S rfl rfl rfl rfl (dqq rfl) (dqq rfl)) ?_; clear S; intro w S)) | (refine Z0g rfl (fun h => ?_) (fun h => ?_) <;> (fail_if_success first | have := ntT h | have := ntF h) <;> (try simp only [tdyB] at h) <;> (try (exfalso; omega)) <;> (try (exfalso; omega; done))))
    exact ⟨_, _, ⟨rfl, rfl, rfl, rfl, trivial⟩, S.keep [], efr.symm, eit.symm⟩
  ·repeat' (first | refine Z01 ?_ | refine Z0k ?_ | (refine Z0g rfl (fun h => ?_) (fun h => ?_) <;> (fail_if_success first | have := ntT h | have := ntF h) <;> (try simp only [tdyB] at h) <;> (try (exfalso; omega)) <;> (try (exfalso; omega; done))))
   exact ⟨_, _, ⟨rfl, rfl, rfl, rfl, trivial⟩, S, (if_neg h0).symm, (if_neg (fun h => h0 h.1)).symm⟩
 clear S
 rintro σ w1 ⟨fr, item, hs, S, efr, eit⟩
 refine Z1o hs ?_
 repeat' (first | refine Z0a ?_ | refine Z02 ?_ | refine Z08 ?_ | refine Z01 ?_ | refine Z0f ?_ | refine Z04 rfl ?_)
 replace S := S.nilRow Z1j 60
 refine Z1l (fun m σ w1 => ∃ (i : Nat) (p : Int) (vo : Value), Has σ [(0, .slice A l.length c), (3, .slice A3 xs.length c3), (10, .int .i64 fr), (11, .int .i64 item), (14, vo), (15, .int .i64 p)] ∧ St w0 w1 [Z16 Z1j 60 vo (verN l item xs i)] ∧ p = i ∧ i ≤ min xs.length 40 ∧ m = 40 - i) 40 ⟨0, _, _, ⟨rfl, rfl, rfl, rfl, rfl, rfl, trivial⟩, S, rfl, by omega, by omega⟩ ?_
 clear S hs
 rintro m σ w1 ⟨i, p, vo, hs, S, hp, hi1, hm⟩
 refine Z1o hs ?_
 have hol := @Zhh l item xs i
 by_cases hi : i < min xs.length 40
 ·obtain ⟨x0, x1⟩ := hx _ (Z2e (l := xs) (i := p) (by omega) (by omega))
  obtain ⟨x, hxe⟩ : ∃ x, nth xs p = x := ⟨_, rfl⟩
  have td := tdivk (k := 5) (by omega) x0 x1
  have r5 := Z1m (c := nth xs p) (n := 5) (by omega)
  have r3 := Z1m (c := (nth xs p).tdiv 5) (n := 3) (by omega)
  have evb : Z9b l item (nth xs p) = if Z26 (nth xs p) 5 = 1 ∧ 0 < (l.length : Int) then ⟨1, (nth l (Z26 ((nth xs p).tdiv 5) l.length)).Item⟩ else if Z26 (nth xs p) 5 = 2 ∨ Z26 (nth xs p) 5 = 3 then ⟨2 + Z26 ((nth xs p).tdiv 5) 3, 0⟩ else ⟨1, item⟩ := rfl
  by_cases c1 : Z26 (nth xs p) 5 = 1
  ·by_cases c2 : 0 < (l.length : Int)
   ·rw [if_pos ⟨c1, c2⟩] at evb
    have rl := Z1m (c := (nth xs p).tdiv 5) (n := (l.length : Int)) c2
    repeat' (first | refine Z0a ?_ | refine Z02 ?_ | refine Z08 ?_ | refine Z01 ?_ | refine Z0h ?_ | refine Z0k ?_ | refine Z0f ?_ | refine Z06 rfl ?_ | refine Z04 rfl ?_ | refine Z0u rfl rfl ?_ | ((refine Z00 rfl (Zdx rfl rfl ?_ ?_ ?_) ?_; (first | omega | simp <;> omega); (first | omega | simp <;> omega); (first | omega | simp <;> omega))) | refine Z00 rfl (Z2k rfl rfl) ?_ | refine Z00 rfl (Z0z rfl rfl) ?_ | refine Z00 rfl (Z2o rfl rfl) ?_ | refine Z00 rfl (Z4j rfl rfl) ?_ | refine Z00 rfl (Z0e rfl) ?_ | (first | refine Z00 rfl (Z09 rfl) ?_ | refine Z00 rfl (Z1g rfl) ?_) | (first | (refine Z00 rfl (Z07 (hr3.mono S.below) rfl rfl ?_ ?_) ?_; (first | omega | simp <;> omega); (first | omega | simp <;> omega)) | (refine Z00 rfl (Z07 (hr1.mono S.below) rfl rfl ?_ ?_) ?_; (first | omega | simp <;> omega); (first | omega | simp <;> omega))) | (first | (refine Z00 rfl (Z0i (hr3.mono S.below) rfl ?_ ?_ rfl) ?_; (first | omega | simp <;> omega); (first | omega | simp <;> omega)) | (refine Z00 rfl (Z11 (hr1.mono S.below) rfl ?_ ?_ rfl) ?_; (first | omega | simp <;> omega); (first | omega | simp <;> omega)) | refine Z00 rfl (Z0m (i := 1) S rfl rfl rfl rfl) ?_) | ((refine Z0j rfl (Z0w rfl rfl rfl) (Z4e (by omega) (by omega) (by omega)) ?_; intro w hb; replace S := S.grow hb; clear hb)) | (refine Z0n rfl (Z1i S) ?_; rintro _ w ⟨b, rfl, -, S'⟩; replace S := S'; clear S') | (first | (refine Z05 rfl (Z03 (i := 0) S rfl rfl rfl rfl (dqq rfl) (dqq rfl)) ?_; clear S; intro w S) | (refine Z05 rfl (Z03 (i := 1) S rfl rfl rfl rfl (dqq rfl) (dqq rfl)) ?_; clear S; intro w S)) | (refine Z13 rfl rfl (fun h => ?_) (fun h => ?_) <;> (fail_if_success first | have := ntT h | have := ntF h) <;> (try simp only [tdyB] at h) <;> (try (exfalso; omega)) <;> (try (exfalso; omega; done))) | (refine Z0g rfl (fun h => ?_) (fun h => ?_) <;> (fail_if_success first | have := ntT h | have := ntF h) <;> (try simp only [tdyB] at h) <;> (try (exfalso; omega)) <;> (try (exfalso; omega; done))))
    all_goals
     refine Z0n rfl (Z2z (D := Z1j) [Z9b l item (nth xs p)] (fun y => .agg y.enc.toArray) S (by rw [evb]; rfl) rfl (fun _ => rfl) rfl (Nat.succ_pos _) (by show 1 * 2 ≤ _; decide)) ?_
     rintro _ w ⟨bl, rfl, -, hcl, S'⟩; replace S := S'; clear S'
     refine Z0n rfl (Z2t (D := Z1j) (i := 0) (b := bl) (x := Z9b l item (nth xs p)) S rfl rfl rfl (Z53 hcl) rfl (by decide) (Zhj _) (by omega) (by omega)) ?_
     rintro vo' w ⟨-, S'⟩; replace S := S'; clear S' hcl
     repeat' (first | refine Z02 ?_ | refine Z08 ?_ | refine Z01 ?_ | refine Z0h ?_ | refine Z06 rfl ?_ | refine Z04 rfl ?_ | ((refine Z00 rfl (Z12 rfl rfl ?_ ?_) ?_; (first | omega | simp <;> omega); (first | omega | simp <;> omega))))
     refine ⟨⟨_, ?_, i + 1, _, vo', ⟨rfl, rfl, rfl, rfl, rfl, rfl, trivial⟩, by rw [Z8s, ← hp]; exact S.keep [true], by omega, by omega, rfl⟩⟩
     omega
   ·rw [if_neg (fun h => c2 h.2), if_neg (by omega)] at evb
    repeat' (first | refine Z0a ?_ | refine Z02 ?_ | refine Z08 ?_ | refine Z01 ?_ | refine Z0h ?_ | refine Z0k ?_ | refine Z0f ?_ | refine Z06 rfl ?_ | refine Z04 rfl ?_ | refine Z0u rfl rfl ?_ | refine Z00 rfl (Z2k rfl rfl) ?_ | refine Z00 rfl (Z0z rfl rfl) ?_ | refine Z00 rfl (Z2o rfl rfl) ?_ | refine Z00 rfl (Z4j rfl rfl) ?_ | refine Z00 rfl (Z0e rfl) ?_ | ((refine Z00 rfl (Z07 (hr3.mono S.below) rfl rfl ?_ ?_) ?_; (first | omega | simp <;> omega); (first | omega | simp <;> omega))) | (first | (refine Z00 rfl (Z0i (hr3.mono S.below) rfl ?_ ?_ rfl) ?_; (first | omega | simp <;> omega); (first | omega | simp <;> omega)) | refine Z00 rfl (Z0m (i := 1) S rfl rfl rfl rfl) ?_) | ((refine Z0j rfl (Z0w rfl rfl rfl) (Z4e (by omega) (by omega) (by omega)) ?_; intro w hb; replace S := S.grow hb; clear hb)) | (refine Z0n rfl (Z1i S) ?_; rintro _ w ⟨b, rfl, -, S'⟩; replace S := S'; clear S') | (first | (refine Z05 rfl (Z03 (i := 0) S rfl rfl rfl rfl (dqq rfl) (dqq rfl)) ?_; clear S; intro w S) | (refine Z05 rfl (Z03 (i := 1) S rfl rfl rfl rfl (dqq rfl) (dqq rfl)) ?_; clear S; intro w S)) | (refine Z13 rfl rfl (fun h => ?_) (fun h => ?_) <;> (fail_if_success first | have := ntT h | have := ntF h) <;> (try simp only [tdyB] at h) <;> (try (exfalso; omega)) <;> (try (exfalso; omega; done))) | (refine Z0g rfl (fun h => ?_) (fun h => ?_) <;> (fail_if_success first | have := ntT h | have := ntF h) <;> (try simp only [tdyB] at h) <;> (try (exfalso; omega)) <;> (try (exfalso; omega; done))))
    all_goals
     refine Z0n rfl (Z2z (D := Z1j) [Z9b l item (nth xs p)] (fun y => .agg y.enc.toArray) S (by rw [evb]; rfl) rfl (fun _ => rfl) rfl (Nat.succ_pos _) (by show 1 * 2 ≤ _; decide)) ?_
     rintro _ w ⟨bl, rfl, -, hcl, S'⟩; replace S := S'; clear S'
     refine Z0n rfl (Z2t (D := Z1j) (i := 0) (b := bl) (x := Z9b l item (nth xs p)) S rfl rfl rfl (Z53 hcl) rfl (by decide) (Zhj _) (by omega) (by omega)) ?_
     rintro vo' w ⟨-, S'⟩; replace S := S'; clear S' hcl
     repeat' (first | refine Z02 ?_ | refine Z08 ?_ | refine Z01 ?_ | refine Z0h ?_ | refine Z06 rfl ?_ | refine Z04 rfl ?_ | ((refine Z00 rfl (Z12 rfl rfl ?_ ?_) ?_; (first | omega | simp <;> omega); (first | omega | simp <;> omega))))
     refine ⟨⟨_, ?_, i + 1, _, vo', ⟨rfl, rfl, rfl, rfl, rfl, rfl, trivial⟩, by rw [Z8s, ← hp]; exact S.keep [true], by omega, by omega, rfl⟩⟩
     omega
  ·by_cases c2 : Z26 (nth xs p) 5 = 2 ∨ Z26 (nth xs p) 5 = 3
   ·rw [if_neg (fun h => c1 h.1), if_pos c2] at evb
    repeat' (first | refine Z0a ?_ | refine Z02 ?_ | refine Z08 ?_ | refine Z01 ?_ | refine Z0h ?_ | refine Z0k ?_ | refine Z0f ?_ | refine Z06 rfl ?_ | refine Z04 rfl ?_ | refine Z0u rfl rfl ?_ | ((refine Z00 rfl (Z12 rfl rfl ?_ ?_) ?_; (first | omega | simp <;> omega); (first | omega | simp <;> omega))) | ((refine Z00 rfl (Zdx rfl rfl ?_ ?_ ?_) ?_; (first | omega | simp <;> omega); (first | omega | simp <;> omega); (first | omega | simp <;> omega))) | refine Z00 rfl (Z2k rfl rfl) ?_ | refine Z00 rfl (Z0z rfl rfl) ?_ | (first | refine Z00 rfl (Ziy rfl) ?_ | refine Z00 rfl (Z4j rfl rfl) ?_) | refine Z00 rfl (Z0e rfl) ?_ | ((refine Z00 rfl (Z07 (hr3.mono S.below) rfl rfl ?_ ?_) ?_; (first | omega | simp <;> omega); (first | omega | simp <;> omega))) | (first | (refine Z00 rfl (Z0i (hr3.mono S.below) rfl ?_ ?_ rfl) ?_; (first | omega | simp <;> omega); (first | omega | simp <;> omega)) | refine Z00 rfl (Z0m (i := 1) S rfl rfl rfl rfl) ?_) | ((refine Z0j rfl (Z0w rfl rfl rfl) (Z4e (by omega) (by omega) (by omega)) ?_; intro w hb; replace S := S.grow hb; clear hb)) | (refine Z0n rfl (Z1i S) ?_; rintro _ w ⟨b, rfl, -, S'⟩; replace S := S'; clear S') | (first | (refine Z05 rfl (Z03 (i := 0) S rfl rfl rfl rfl (dqq rfl) (dqq rfl)) ?_; clear S; intro w S) | (refine Z05 rfl (Z03 (i := 1) S rfl rfl rfl rfl (dqq rfl) (dqq rfl)) ?_; clear S; intro w S)) | (refine Z13 rfl rfl (fun h => ?_) (fun h => ?_) <;> (fail_if_success first | have := ntT h | have := ntF h) <;> (try simp only [tdyB] at h) <;> (try (exfalso; omega)) <;> (try (exfalso; omega; done))) | (refine Z0g rfl (fun h => ?_) (fun h => ?_) <;> (fail_if_success first | have := ntT h | have := ntF h) <;> (try simp only [tdyB] at h) <;> (try (exfalso; omega)) <;> (try (exfalso; omega; done))))
    all_goals
     refine Z0n rfl (Z2z (D := Z1j) [Z9b l item (nth xs p)] (fun y => .agg y.enc.toArray) S (by rw [evb]; rfl) rfl (fun _ => rfl) rfl (Nat.succ_pos _) (by show 1 * 2 ≤ _; decide)) ?_
     rintro _ w ⟨bl, rfl, -, hcl, S'⟩; replace S := S'; clear S'
     refine Z0n rfl (Z2t (D := Z1j) (i := 0) (b := bl) (x := Z9b l item (nth xs p)) S rfl rfl rfl (Z53 hcl) rfl (by decide) (Zhj _) (by omega) (by omega)) ?_
     rintro vo' w ⟨-, S'⟩; replace S := S'; clear S' hcl
     repeat' (first | refine Z02 ?_ | refine Z08 ?_ | refine Z01 ?_ | refine Z0h ?_ | refine Z06 rfl ?_ | refine Z04 rfl ?_ | ((refine Z00 rfl (Z12 rfl rfl ?_ ?_) ?_; (first | omega | simp <;> omega); (first | omega | simp <;> omega))))
     refine ⟨⟨_, ?_, i + 1, _, vo', ⟨rfl, rfl, rfl, rfl, rfl, rfl, trivial⟩, by rw [Z8s, ← hp]; exact S.keep [true], by omega, by omega, rfl⟩⟩
     omega
   ·rw [if_neg (fun h => c1 h.1), if_neg c2] at evb
    repeat' (first | refine Z0a ?_ | refine Z02 ?_ | refine Z08 ?_ | refine Z01 ?_ | refine Z0h ?_ | refine Z0k ?_ | refine Z0f ?_ | refine Z06 rfl ?_ | refine Z04 rfl ?_ | refine Z0u rfl rfl ?_ | refine Z00 rfl (Z2k rfl rfl) ?_ | refine Z00 rfl (Z0z rfl rfl) ?_ | refine Z00 rfl (Z4j rfl rfl) ?_ | refine Z00 rfl (Z0e rfl) ?_ | ((refine Z00 rfl (Z07 (hr3.mono S.below) rfl rfl ?_ ?_) ?_; (first | omega | simp <;> omega); (first | omega | simp <;> omega))) | (first | (refine Z00 rfl (Z0i (hr3.mono S.below) rfl ?_ ?_ rfl) ?_; (first | omega | simp <;> omega); (first | omega | simp <;> omega)) | refine Z00 rfl (Z0m (i := 1) S rfl rfl rfl rfl) ?_) | ((refine Z0j rfl (Z0w rfl rfl rfl) (Z4e (by omega) (by omega) (by omega)) ?_; intro w hb; replace S := S.grow hb; clear hb)) | (refine Z0n rfl (Z1i S) ?_; rintro _ w ⟨b, rfl, -, S'⟩; replace S := S'; clear S') | (first | (refine Z05 rfl (Z03 (i := 0) S rfl rfl rfl rfl (dqq rfl) (dqq rfl)) ?_; clear S; intro w S) | (refine Z05 rfl (Z03 (i := 1) S rfl rfl rfl rfl (dqq rfl) (dqq rfl)) ?_; clear S; intro w S)) | (refine Z13 rfl rfl (fun h => ?_) (fun h => ?_) <;> (fail_if_success first | have := ntT h | have := ntF h) <;> (try simp only [tdyB] at h) <;> (try (exfalso; omega)) <;> (try (exfalso; omega; done))) | (refine Z0g rfl (fun h => ?_) (fun h => ?_) <;> (fail_if_success first | have := ntT h | have := ntF h) <;> (try simp only [tdyB] at h) <;> (try (exfalso; omega)) <;> (try (exfalso; omega; done))))
    all_goals
     refine Z0n rfl (Z2z (D := Z1j) [Z9b l item (nth xs p)] (fun y => .agg y.enc.toArray) S (by rw [evb]; rfl) rfl (fun _ => rfl) rfl (Nat.succ_pos _) (by show 1 * 2 ≤ _; decide)) ?_
     rintro _ w ⟨bl, rfl, -, hcl, S'⟩; replace S := S'; clear S'
     refine Z0n rfl (Z2t (D := Z1j) (i := 0) (b := bl) (x := Z9b l item (nth xs p)) S rfl rfl rfl (Z53 hcl) rfl (by decide) (Zhj _) (by omega) (by omega)) ?_
     rintro vo' w ⟨-, S'⟩; replace S := S'; clear S' hcl
     repeat' (first | refine Z02 ?_ | refine Z08 ?_ | refine Z01 ?_ | refine Z0h ?_ | refine Z06 rfl ?_ | refine Z04 rfl ?_ | ((refine Z00 rfl (Z12 rfl rfl ?_ ?_) ?_; (first | omega | simp <;> omega); (first | omega | simp <;> omega))))
     refine ⟨⟨_, ?_, i + 1, _, vo', ⟨rfl, rfl, rfl, rfl, rfl, rfl, trivial⟩, by rw [Z8s, ← hp]; exact S.keep [true], by omega, by omega, rfl⟩⟩
     omega
 ·repeat' (first | refine Z0a ?_ | refine Z02 ?_ | refine Z08 ?_ | refine Z01 ?_ | refine Z0s ?_ | refine Z15 ?_ | refine Z0r ?_ | refine Z1b ?_ | refine Z18 rfl ?_ | (refine Z1c ?_; refine Z1p rfl ?_) | refine Z06 rfl ?_ | refine Z04 rfl ?_ | (first | refine Z0u rfl rfl ?_ | refine Z0t rfl rfl ?_) | refine Z00 rfl (Z0z rfl rfl) ?_ | refine Z00 rfl (Z0e rfl) ?_ | (refine Z13 rfl rfl (fun h => ?_) (fun h => ?_) <;> (fail_if_success first | have := ntT h | have := ntF h) <;> (try simp only [tdyB] at h) <;> (try (exfalso; omega)) <;> (try (exfalso; omega; done))) | (refine Z0g rfl (fun h => ?_) (fun h => ?_) <;> (fail_if_success first | have := ntT h | have := ntF h) <;> (try simp only [tdyB] at h) <;> (try (exfalso; omega)) <;> (try (exfalso; omega; done))))
  all_goals
   obtain rfl : i = min xs.length 40 := by omega
   exact end2 rfl rfl rfl ⟨_, rfl, S.below, vo, by rw [efr]; rfl, by unfold verL; rw [← eit]; exact S.row (i := 0) rfl⟩

def Zl7 (vs M : List GVerdict) (it : Int) (i : Int) : Prop := (M.length : Int) = i ∧ ∀ j : Int, 0 ≤ j → j < i → nth M j = nth vs j ∨ ((nth vs j).Kind ≠ 1 ∧ nth M j = ⟨1, it⟩)
theorem Zl8 {M : List GVerdict} {x : GVerdict} {j : Int} (h0 : 0 ≤ j) (hj : j ≤ M.length) : nth (M ++ [x]) j = if j < M.length then nth M j else x := by
 have h := Z1u (l := M ++ [x]) (i := j) h0 (by simp; omega)
 split
 ·rw [List.getElem?_append_left (by omega), Z1u h0 (by omega)] at h
  exact (Option.some.inj h).symm
 ·rw [List.getElem?_append_right (by omega), show j.toNat - M.length = 0 by omega] at h
  exact (Option.some.inj h).symm
theorem Zl7.snoc {vs M : List GVerdict} {it i : Int} {x : GVerdict} (h : Zl7 vs M it i) (h0 : 0 ≤ i) (hx : x = nth vs i ∨ ((nth vs i).Kind ≠ 1 ∧ x = ⟨1, it⟩)) : Zl7 vs (M ++ [x]) it (i + 1) := by
 obtain ⟨hl, hm⟩ := h
 refine ⟨by simp; omega, fun j p q => ?_⟩
 rw [Zl8 p (by omega)]
 by_cases e : j < i
 ·rw [if_pos (by omega)]; exact hm j p e
 ·rw [if_neg (by omega), show j = i by omega]; exact hx

theorem Zbn {l : List GContract} {sp : List GSpot} {r : List Int × Int} {v1 v2 : Value} {w0 : World} (h : Z3b l sp = r) (hr1 : Rd Z14.ty w0 v1 l) (hr2 : Rd Z1d.ty w0 v2 sp) (hl : l.length ≤ 1000000000) (hl2 : sp.length ≤ 1000000000) : CallsR Tryd.prog 52 #[v1, v2] w0 (RowE w0 r) := by rw [← h]; exact Zej hr1 hr2 hl hl2
set_option maxRecDepth 20000 in
set_option maxHeartbeats 2000000 in
theorem Zhk {l : List GContract} {sp : List GSpot} {v1 v2 : Value} {w0 : World} (hr1 : Rd Z14.ty w0 v1 l) (hr2 : Rd Z1d.ty w0 v2 sp) (hl1 : l.length ≤ 1000000000) (hl2 : sp.length ≤ 1000000000) :
  CallsR Tryd.prog 19 #[v1, v2] w0 (RowE w0 (dueI l sp)) := by
 have S := St.start w0
 obtain ⟨A, c, rfl⟩ := hr1.len
 obtain ⟨A2, c2, rfl⟩ := hr2.len
 refine CallsR.mk ?_
 refine Z0l Tryd.func19 rfl (by intro _ h; first | exact nomatch h.1 | (obtain ⟨_, h, _⟩ := h; exact nomatch h)) Tryd.ntmps19 rfl ?_
 repeat' (first | refine Z0a ?_ | refine Z02 ?_ | refine Z08 ?_ | refine Z01 ?_ | refine Z06 rfl ?_ | refine Z04 rfl ?_)
 cases hok : okI l sp with
 | false =>
  have e : dueI l sp = ([], 390) := by unfold dueI; rw [hok]; rfl
  refine Z25 rfl (Z0w rfl rfl rfl) (Zbn (r := ([], 120)) (by unfold Z3b; rw [hok]; rfl) (hr1.mono S.below) (hr2.mono S.below) hl1 hl2) ?_
  rintro _ w hb ⟨vd, rfl, hrow⟩
  replace S := S.new hb hrow; clear hb hrow
  repeat' (first | refine Z0a ?_ | refine Z02 ?_ | refine Z08 ?_ | refine Z01 ?_ | refine Z0x ?_ | refine Z0r ?_ | refine Z0v rfl ?_ | refine Z06 rfl ?_ | refine Z04 rfl ?_ | refine Z00 rfl (Z33 rfl rfl) ?_ | refine Z00 rfl (Z0y rfl rfl) ?_)
  exact end2 rfl rfl rfl ⟨_, rfl, S.below, _, by rw [e]; rfl, by rw [e]; exact Z2u.nil _ _ _ _⟩
 | true =>
 have e : dueI l sp = (dueL l sp, 0) := by unfold dueI; rw [hok]; rfl
 obtain ⟨hvl, hvp⟩ := Zec hok
 have hll := Z5j hvl
 have hpl := Z4x hvp
 refine Z25 rfl (Z0w rfl rfl rfl) (Zbn (Zkz hok) (hr1.mono S.below) (hr2.mono S.below) hl1 hl2) ?_
 rintro _ w hb ⟨vc, rfl, hrow⟩; replace S := S.new hb hrow; clear hb hrow
 obtain ⟨out, hout⟩ : ∃ out, cntI l sp = out := ⟨_, rfl⟩
 have hom : ∀ x ∈ out, 0 ≤ x ∧ x < sp.length := by rw [← hout]; exact fun y hy => Zgq hy
 have hcl := Zd3 l sp
 rw [hout] at hcl
 have hcs : cntS l sp = spAt sp out := by rw [← hout]
 replace S : St w0 w [Z16 (fInt .i64) 3 vc out] := by rw [← hout]; exact S
 obtain ⟨AC, cC, hz⟩ := (S.rdRow (D := fInt .i64) (i := 0) rfl).len; subst hz
 repeat' (first | refine Z0a ?_ | refine Z02 ?_ | refine Z08 ?_ | refine Z01 ?_ | refine Z0k ?_ | refine Z18 rfl ?_ | refine Z06 rfl ?_ | refine Z04 rfl ?_ | refine Z00 rfl (Z33 rfl rfl) ?_ | refine Z00 rfl (Z0y rfl rfl) ?_ | refine Z00 rfl (Z0e rfl) ?_)
 refine Z0n rfl (Z5o (D := fInt .i64) (m := l.length) 0 S rfl rfl rfl (by decide) (by omega) (by omega)) ?_
 rintro vd w ⟨bd, hvd, -, S'⟩; replace S := S'; clear S'
 rw [dF_start (l := l) (sp := sp) (out := out)] at S
 repeat' (first | refine Z0a ?_ | refine Z02 ?_ | refine Z08 ?_ | refine Z01 ?_ | refine Z0f ?_ | refine Z04 rfl ?_)
 refine Z1l (fun m σ w1 => ∃ i : Int, Has σ [(0, .slice A l.length c), (1, .slice A2 sp.length c2), (6, .slice AC out.length cC), (8, vd), (9, .int .i64 i)] ∧ St w0 w1 [Z16 (fInt .i64) 3 (.slice AC out.length cC) out, Z16 (fInt .i64) 3 vd (tab (dF l sp out i 0) l.length)] ∧ 0 ≤ i ∧ i ≤ l.length ∧ m = l.length - i.toNat) l.length ⟨0, ⟨rfl, rfl, rfl, rfl, rfl, trivial⟩, S, by omega, by omega, by omega⟩ ?_
 clear S
 rintro m σ w1 ⟨i, hs, S, hi0, hi1, hm⟩
 refine Z1o hs ?_
 have hvl2 : ∀ k, (tab (dF l sp out i k) l.length).length = l.length := fun k => Z2s
 by_cases hi : i < l.length
 ·have hpr := Zbd hvl (Z2e hi0 hi)
  repeat' (first | refine Z0a ?_ | refine Z02 ?_ | refine Z08 ?_ | refine Z01 ?_ | refine Z0k ?_ | refine Z0f ?_ | refine Z06 rfl ?_ | refine Z04 rfl ?_ | refine Z00 rfl (Z0z rfl rfl) ?_ | refine Z00 rfl (Z0e rfl) ?_ | (refine Z0g rfl (fun h => ?_) (fun h => ?_) <;> (fail_if_success first | have := ntT h | have := ntF h) <;> (try simp only [tdyB] at h) <;> (try (exfalso; omega))))
  refine Z1l (fun m σ w1 => ∃ k : Int, Has σ [(0, .slice A l.length c), (1, .slice A2 sp.length c2), (6, .slice AC out.length cC), (8, vd), (9, .int .i64 i), (10, .int .i64 k)] ∧ St w0 w1 [Z16 (fInt .i64) 3 (.slice AC out.length cC) out, Z16 (fInt .i64) 3 vd (tab (dF l sp out i k) l.length)] ∧ 0 ≤ k ∧ k ≤ out.length ∧ m = out.length - k.toNat) out.length ⟨0, ⟨rfl, rfl, rfl, rfl, rfl, rfl, trivial⟩, S, by omega, by omega, by omega⟩ ?_
  clear S hs
  rintro m' σ w1 ⟨k, hs, S, hk0, hk1, hm'⟩
  refine Z1o hs ?_
  have hvk := hvl2 k
  by_cases hk : k < out.length
  ·have hor := hom _ (Z2e hk0 hk)
   have e := Zbb (sp := sp) hk0 hk
   have eC := @Z8i (spAt sp (out.take k.toNat)) (nth sp (nth out k)) (nth l i).ID
   rw [← e] at eC
   have hcr := @Z92 (spAt sp (out.take k.toNat)) (nth l i).ID
   rw [Z7d, List.length_take] at hcr
   have hat := dF_at (l := l) (sp := sp) (out := out) (k := k) hi0 hi
   have hdr := Zfr hpr (n := cntC (spAt sp (out.take k.toNat)) (nth l i).ID) (by omega)
   rw [← hat] at hdr
   by_cases he : (nth sp (nth out k)).Contract = (nth l i).ID
   ·rw [if_pos he] at eC
    repeat' (first | refine Z0a ?_ | refine Z02 ?_ | refine Z08 ?_ | refine Z01 ?_ | refine Z0k ?_ | refine Z0f ?_ | refine Z28 12 (by kernel_rfl) (by decide +kernel) ?_ | refine Z1s (by kernel_rfl) (by kernel_rfl) ?_ | (refine Z1q ?_; intro w hb; replace S := S.grow hb; clear hb) | refine Z06 rfl ?_ | refine Z00 rfl (Z0z rfl rfl) ?_ | refine Z00 rfl (Z0e rfl) ?_ | ((refine Z00 rfl (Z07 (S.rdRow (D := (fInt .i64)) (i := 1) rfl) rfl rfl ?_ ?_) ?_; (first | omega | simp <;> omega); (first | omega | simp <;> omega))) | (refine Z1e ?_; refine Z1r rfl ?_) | (refine Z3o ?_; (refine Z0c rfl (fun w' hb => Z12 rfl rfl ?_ ?_) ?_; (first | omega | simp <;> omega); (first | omega | simp <;> omega))) | (refine Z4h ?_; refine Z0c rfl (fun w' hb => Z2k rfl rfl) ?_) | (refine Z10 ?_; refine Z0c rfl (fun w' hb => Z1g rfl) ?_) | (refine Z0q ?_; first | (refine Z0c rfl (fun w' hb => Z07 (hr1.mono (S.grow hb).below) rfl rfl ?_ ?_) ?_; (first | omega | simp <;> omega); (first | omega | simp <;> omega)) | (refine Z0c rfl (fun w' hb => Z07 (hr2.mono (S.grow hb).below) rfl rfl ?_ ?_) ?_; (first | omega | simp <;> omega); (first | omega | simp <;> omega)) | (refine Z0c rfl (fun w' hb => Z07 ((S.grow hb).rdRow (D := (fInt .i64)) (i := 0) rfl) rfl rfl ?_ ?_) ?_; (first | omega | simp <;> omega); (first | omega | simp <;> omega)) | (refine Z0c rfl (fun w' hb => Z07 ((S.grow hb).rdRow (D := (fInt .i64)) (i := 1) rfl) rfl rfl ?_ ?_) ?_; (first | omega | simp <;> omega); (first | omega | simp <;> omega))) | (refine Z1f ?_; first | (refine Z0c rfl (fun w' hb => Z0i (hr1.mono (S.grow hb).below) rfl ?_ ?_ rfl) ?_; (first | omega | simp <;> omega); (first | omega | simp <;> omega)) | (refine Z0c rfl (fun w' hb => Z11 (hr1.mono (S.grow hb).below) rfl ?_ ?_ rfl) ?_; (first | omega | simp <;> omega); (first | omega | simp <;> omega)) | (refine Z0c rfl (fun w' hb => Z0i (hr2.mono (S.grow hb).below) rfl ?_ ?_ rfl) ?_; (first | omega | simp <;> omega); (first | omega | simp <;> omega)) | (refine Z0c rfl (fun w' hb => Z0i ((S.grow hb).rdRow (D := (fInt .i64)) (i := 0) rfl) rfl ?_ ?_ rfl) ?_; (first | omega | simp <;> omega); (first | omega | simp <;> omega)) | (refine Z0c rfl (fun w' hb => Z0i ((S.grow hb).rdRow (D := (fInt .i64)) (i := 1) rfl) rfl ?_ ?_ rfl) ?_; (first | omega | simp <;> omega); (first | omega | simp <;> omega))) | (refine Z0g rfl (fun h => ?_) (fun h => ?_) <;> (fail_if_success first | have := ntT h | have := ntF h) <;> (try simp only [tdyB] at h) <;> (try (exfalso; omega)) <;> (try (exfalso; omega; done))))
    refine Z05 rfl (Z29 (i := 1) (D := fInt .i64) S rfl rfl rfl rfl (fun c hc => by cases List.mem_singleton.1 hc; rfl) (by omega) (by omega)) ?_
    clear S; intro w S
    repeat' (first | refine Z02 ?_ | refine Z08 ?_ | refine Z01 ?_ | refine Z0h ?_ | refine Z06 rfl ?_ | refine Z04 rfl ?_ | ((refine Z00 rfl (Z12 rfl rfl ?_ ?_) ?_; (first | omega | simp <;> omega); (first | omega | simp <;> omega))))
    refine ⟨⟨_, ?_, k + 1, ⟨rfl, rfl, rfl, rfl, rfl, rfl, trivial⟩, ?_, by omega, by omega, rfl⟩⟩
    ·omega
    ·rw [← dF_put (x := nth (tab (dF l sp out i k) l.length) i + (nth l i).Price) hi0 hi (by rw [hat, eC, Int.mul_add, Int.mul_one])]
     exact S
   ·rw [if_neg he] at eC
    repeat' (first | refine Z0a ?_ | refine Z02 ?_ | refine Z08 ?_ | refine Z01 ?_ | refine Z0h ?_ | refine Z0k ?_ | refine Z0f ?_ | refine Z1s (by kernel_rfl) (by kernel_rfl) ?_ | (refine Z1q ?_; intro w hb; replace S := S.grow hb; clear hb) | refine Z06 rfl ?_ | refine Z04 rfl ?_ | ((refine Z00 rfl (Z12 rfl rfl ?_ ?_) ?_; (first | omega | simp <;> omega); (first | omega | simp <;> omega))) | refine Z00 rfl (Z0z rfl rfl) ?_ | refine Z00 rfl (Z0e rfl) ?_ | (refine Z1e ?_; refine Z1r rfl ?_) | (refine Z4h ?_; refine Z0c rfl (fun w' hb => Z2k rfl rfl) ?_) | (refine Z10 ?_; refine Z0c rfl (fun w' hb => Z1g rfl) ?_) | (refine Z0q ?_; first | (refine Z0c rfl (fun w' hb => Z07 (hr1.mono (S.grow hb).below) rfl rfl ?_ ?_) ?_; (first | omega | simp <;> omega); (first | omega | simp <;> omega)) | (refine Z0c rfl (fun w' hb => Z07 (hr2.mono (S.grow hb).below) rfl rfl ?_ ?_) ?_; (first | omega | simp <;> omega); (first | omega | simp <;> omega)) | (refine Z0c rfl (fun w' hb => Z07 ((S.grow hb).rdRow (D := (fInt .i64)) (i := 0) rfl) rfl rfl ?_ ?_) ?_; (first | omega | simp <;> omega); (first | omega | simp <;> omega))) | (refine Z1f ?_; first | (refine Z0c rfl (fun w' hb => Z0i (hr1.mono (S.grow hb).below) rfl ?_ ?_ rfl) ?_; (first | omega | simp <;> omega); (first | omega | simp <;> omega)) | (refine Z0c rfl (fun w' hb => Z0i (hr2.mono (S.grow hb).below) rfl ?_ ?_ rfl) ?_; (first | omega | simp <;> omega); (first | omega | simp <;> omega)) | (refine Z0c rfl (fun w' hb => Z0i ((S.grow hb).rdRow (D := (fInt .i64)) (i := 0) rfl) rfl ?_ ?_ rfl) ?_; (first | omega | simp <;> omega); (first | omega | simp <;> omega))) | (refine Z0g rfl (fun h => ?_) (fun h => ?_) <;> (fail_if_success first | have := ntT h | have := ntF h) <;> (try simp only [tdyB] at h) <;> (try (exfalso; omega)) <;> (try (exfalso; omega; done))))
    refine ⟨⟨_, ?_, k + 1, ⟨rfl, rfl, rfl, rfl, rfl, rfl, trivial⟩, ?_, by omega, by omega, rfl⟩⟩
    ·omega
    ·rw [dF_skip (by omega)]; exact S
  ·have hke : k = out.length := by omega
   subst hke
   repeat' (first | refine Z0a ?_ | refine Z02 ?_ | refine Z08 ?_ | refine Z01 ?_ | refine Z0h ?_ | refine Z0s ?_ | refine Z15 ?_ | refine Z1b ?_ | refine Z06 rfl ?_ | refine Z04 rfl ?_ | ((refine Z00 rfl (Z12 rfl rfl ?_ ?_) ?_; (first | omega | simp <;> omega); (first | omega | simp <;> omega))) | refine Z00 rfl (Z0z rfl rfl) ?_ | refine Z00 rfl (Z0e rfl) ?_ | (refine Z0g rfl (fun h => ?_) (fun h => ?_) <;> (fail_if_success first | have := ntT h | have := ntF h) <;> (try simp only [tdyB] at h) <;> (try (exfalso; omega)) <;> (try (exfalso; omega; done))))
   refine ⟨⟨_, ?_, i + 1, ⟨rfl, rfl, rfl, rfl, rfl, trivial⟩, by rw [← dF_next]; exact S, by omega, by omega, rfl⟩⟩
   omega
 ·have hie : i = l.length := by omega
  subst hie
  have eF : tab (dF l sp out l.length 0) l.length = dueL l sp := Zd5 (by rw [Z2s, Zaa]) fun j h0 hj => by
   rw [Z2s] at hj
   rw [Z3d (i := j.toNat) (by omega) (by omega), Zfs h0 hj]
   unfold dF
   rw [if_pos (by omega), hcs, show ((j.toNat : Nat) : Int) = j by omega]
  rw [eF] at S
  repeat' (first | refine Z0a ?_ | refine Z02 ?_ | refine Z08 ?_ | refine Z01 ?_ | refine Z0s ?_ | refine Z15 ?_ | refine Z0r ?_ | refine Z1b ?_ | refine Z06 rfl ?_ | refine Z04 rfl ?_ | refine Z00 rfl (Z0z rfl rfl) ?_ | refine Z00 rfl (Z0e rfl) ?_ | (refine Z0g rfl (fun h => ?_) (fun h => ?_) <;> (fail_if_success first | have := ntT h | have := ntF h) <;> (try simp only [tdyB] at h) <;> (try (exfalso; omega)) <;> (try (exfalso; omega; done))))
  exact end2 rfl rfl rfl ⟨_, rfl, S.below, vd, by rw [e]; rfl, by rw [e]; exact S.row (i := 1) rfl⟩

def exK (l : List GContract) (vs : List GVerdict) (fr : Int) (s : GSpot) (k : Int) : List GSpot :=
 match Z49 (l.take k.toNat) s.Contract with
 | none => []
 | some c => if Z6a vs (s.At - fr) c.Item = true then [s] else []
theorem Zij {l : List GContract} {id k : Int} (h0 : 0 ≤ k) (hk : k < l.length) : Z49 (l.take (k + 1).toNat) id = (Z49 (l.take k.toNat) id).or (if (nth l k).ID = id then some (nth l k) else none) := by
 unfold Z49
 rw [show (k + 1).toNat = k.toNat + 1 by omega, List.take_add_one, Z1u h0 hk, Option.toList_some, List.find?_append]
 congr 1
 by_cases e : (nth l k).ID = id <;> simp [e]
theorem Zik {l : List GContract} (h : Z2v l = true) {k : Int} (h0 : 0 ≤ k) (hk : k < l.length) : Z49 (l.take k.toNat) (nth l k).ID = none := by
 have := Z8j h h0 hk
 rw [Z8g] at this
 exact this
theorem exK_end {l : List GContract} {vs : List GVerdict} {fr : Int} {s : GSpot} {k : Int} (hk : (l.length : Int) ≤ k) : exK l vs fr s k = if dlv l vs fr s = true then [s] else [] := by
 unfold exK dlv
 rw [List.take_of_length_le (by omega)]
 cases Z49 l s.Contract <;> rfl
set_option maxRecDepth 20000 in
set_option maxHeartbeats 4000000 in
theorem delR_run {l : List GContract} {sp : List GSpot} {vs : List GVerdict} {fr : Int} {v1 v2 v3 : Value} {w0 : World} (hr1 : Rd Z14.ty w0 v1 l) (hr2 : Rd Z1d.ty w0 v2 sp) (hr3 : Rd Z1j.ty w0 v3 vs) (hl1 : l.length ≤ 1000000000) (hl2 : sp.length ≤ 1000000000) (hl3 : vs.length ≤ 1000000000) :
  CallsR Tryd.prog 17 #[v1, v2, v3, .int .i64 fr] w0 (RowDl w0 (delI l sp vs fr)) := by
 have S := St.start w0
 obtain ⟨A, c, rfl⟩ := hr1.len
 obtain ⟨A2, c2, rfl⟩ := hr2.len
 obtain ⟨A3, c3, rfl⟩ := hr3.len
 have hvV : ∀ {b : Bool} {w : World}, Z3m vs = b → Rd Z1j.ty w (.slice A3 vs.length c3) vs → CallsV Tryd.prog 26 #[.slice A3 vs.length c3] w (.bool b) := fun h hr => by rw [← h]; exact Z6w hr hl3
 refine CallsR.mk ?_
 refine Z0l Tryd.func17 rfl (by intro _ h; first | exact nomatch h.1 | (obtain ⟨_, h, _⟩ := h; exact nomatch h)) Tryd.ntmps17 rfl ?_
 cases h1 : Z2v l with
 | false =>
  have e := Z6y (sp := sp) (vs := vs) (from_ := fr) (l := l) (by unfold okDl; rw [h1]; rfl)
  repeat' (first | refine Z0a ?_ | refine Z02 ?_ | refine Z08 ?_ | refine Z01 ?_ | refine Z0x ?_ | refine Z0r ?_ | refine Z0v rfl ?_ | (refine Z1c ?_; refine Z1p rfl ?_) | refine Z06 rfl ?_ | refine Z04 rfl ?_ | refine Z0u rfl rfl ?_ | refine Z00 rfl (Z1w rfl) ?_ | ((refine Z0j rfl (Z1h rfl rfl) (Z54 h1 (hr1.mono S.below) hl1) ?_; intro w hb; replace S := S.grow hb; clear hb)))
  exact end2 rfl rfl rfl ⟨_, rfl, S.below, _, by rw [e]; rfl, by rw [e]; exact Z2u.nil _ _ _ _⟩
 | true =>
 cases h2 : Z3s sp with
 | false =>
  have e := Z6y (sp := sp) (vs := vs) (from_ := fr) (l := l) (by unfold okDl; rw [h2]; simp)
  repeat' (first | refine Z0a ?_ | refine Z02 ?_ | refine Z08 ?_ | refine Z01 ?_ | refine Z0x ?_ | refine Z0r ?_ | refine Z0v rfl ?_ | (refine Z1c ?_; refine Z1p rfl ?_) | refine Z06 rfl ?_ | refine Z04 rfl ?_ | (first | refine Z0u rfl rfl ?_ | refine Z0t rfl rfl ?_) | refine Z00 rfl (Z1w rfl) ?_ | (first | (refine Z0j rfl (Z1h rfl rfl) (Z54 h1 (hr1.mono S.below) hl1) ?_; intro w hb; replace S := S.grow hb; clear hb) | (refine Z0j rfl (Z1h rfl rfl) (Z3v h2 (hr2.mono S.below) hl2) ?_; intro w hb; replace S := S.grow hb; clear hb)))
  exact end2 rfl rfl rfl ⟨_, rfl, S.below, _, by rw [e]; rfl, by rw [e]; exact Z2u.nil _ _ _ _⟩
 | true =>
 cases h3 : Z3m vs with
 | false =>
  have e := Z6y (sp := sp) (vs := vs) (from_ := fr) (l := l) (by unfold okDl; rw [h3]; simp)
  repeat' (first | refine Z0a ?_ | refine Z02 ?_ | refine Z08 ?_ | refine Z01 ?_ | refine Z0x ?_ | refine Z0r ?_ | refine Z0v rfl ?_ | (refine Z1c ?_; refine Z1p rfl ?_) | refine Z06 rfl ?_ | refine Z04 rfl ?_ | (first | refine Z0u rfl rfl ?_ | refine Z0t rfl rfl ?_) | refine Z00 rfl (Z1w rfl) ?_ | (first | (refine Z0j rfl (Z1h rfl rfl) (Z54 h1 (hr1.mono S.below) hl1) ?_; intro w hb; replace S := S.grow hb; clear hb) | (refine Z0j rfl (Z1h rfl rfl) (Z3v h2 (hr2.mono S.below) hl2) ?_; intro w hb; replace S := S.grow hb; clear hb) | (refine Z0j rfl (Z1h rfl rfl) (hvV h3 (hr3.mono S.below)) ?_; intro w hb; replace S := S.grow hb; clear hb)))
  exact end2 rfl rfl rfl ⟨_, rfl, S.below, _, by rw [e]; rfl, by rw [e]; exact Z2u.nil _ _ _ _⟩
 | true =>
 cases h4 : inR fr 0 10000000 with
 | false =>
  have e := Z6y (sp := sp) (vs := vs) (from_ := fr) (l := l) (by unfold okDl; rw [h4]; simp)
  repeat' (first | refine Z0a ?_ | refine Z02 ?_ | refine Z08 ?_ | refine Z01 ?_ | refine Z0x ?_ | refine Z0r ?_ | refine Z0v rfl ?_ | refine Z06 rfl ?_ | refine Z04 rfl ?_ | refine Z0t rfl rfl ?_ | refine Z00 rfl (Z1w rfl) ?_ | (first | (refine Z0j rfl (Z1h rfl rfl) (Z54 h1 (hr1.mono S.below) hl1) ?_; intro w hb; replace S := S.grow hb; clear hb) | (refine Z0j rfl (Z1h rfl rfl) (Z3v h2 (hr2.mono S.below) hl2) ?_; intro w hb; replace S := S.grow hb; clear hb) | (refine Z0j rfl (Z1h rfl rfl) (hvV h3 (hr3.mono S.below)) ?_; intro w hb; replace S := S.grow hb; clear hb) | (refine Z0j rfl (Z1t rfl rfl rfl rfl) (Z4d h4) ?_; intro w hb; replace S := S.grow hb; clear hb)))
  exact end2 rfl rfl rfl ⟨_, rfl, S.below, _, by rw [e]; rfl, by rw [e]; exact Z2u.nil _ _ _ _⟩
 | true =>
 have e : delI l sp vs fr = (sp.filter (dlv l vs fr), 0) := by unfold delI okDl; rw [h1, h2, h3, h4]; rfl
 have hfr : 0 ≤ fr ∧ fr ≤ 10000000 := of_decide_eq_true h4
 have hspa := Zkc (l := l) (sp := sp) (by unfold okI; rw [h1, h2]; rfl)
 have hvl := Z68 h3
 have hspl := Z4x h2
 repeat' (first | refine Z0a ?_ | refine Z02 ?_ | refine Z08 ?_ | refine Z01 ?_ | refine Z0k ?_ | refine Z0f ?_ | refine Z18 rfl ?_ | refine Z06 rfl ?_ | refine Z04 rfl ?_ | refine Z0t rfl rfl ?_ | refine Z00 rfl (Z1w rfl) ?_ | (first | (refine Z0j rfl (Z1h rfl rfl) (Z54 h1 (hr1.mono S.below) hl1) ?_; intro w hb; replace S := S.grow hb; clear hb) | (refine Z0j rfl (Z1h rfl rfl) (Z3v h2 (hr2.mono S.below) hl2) ?_; intro w hb; replace S := S.grow hb; clear hb) | (refine Z0j rfl (Z1h rfl rfl) (hvV h3 (hr3.mono S.below)) ?_; intro w hb; replace S := S.grow hb; clear hb) | (refine Z0j rfl (Z1t rfl rfl rfl rfl) (Z4d h4) ?_; intro w hb; replace S := S.grow hb; clear hb)))
 replace S := S.nilRow Z1d 63
 refine Z1l (fun m σ w1 => ∃ (i : Int) (vo : Value), Has σ [(0, .slice A l.length c), (1, .slice A2 sp.length c2), (2, .slice A3 vs.length c3), (3, .int .i64 fr), (10, vo), (11, .int .i64 i)] ∧ St w0 w1 [Z16 Z1d 63 vo ((sp.take i.toNat).filter (dlv l vs fr))] ∧ 0 ≤ i ∧ i ≤ sp.length ∧ m = sp.length - i.toNat) sp.length ⟨0, _, ⟨rfl, rfl, rfl, rfl, rfl, rfl, trivial⟩, S, by omega, by omega, by omega⟩ ?_
 clear S
 rintro m σ w1 ⟨i, vo, hs, S, hi0, hi1, hm⟩
 refine Z1o hs ?_
 have hfl := List.length_filter_le (dlv l vs fr) (sp.take i.toNat)
 rw [List.length_take] at hfl
 by_cases hi : i < sp.length
 ·have hsa := hspa _ (Z2e hi0 hi)
  have hft := @Zbc (dlv l vs fr) sp i hi0 hi
  repeat' (first | refine Z0a ?_ | refine Z02 ?_ | refine Z08 ?_ | refine Z01 ?_ | refine Z0k ?_ | refine Z0f ?_ | refine Z06 rfl ?_ | refine Z04 rfl ?_ | refine Z00 rfl (Z0z rfl rfl) ?_ | refine Z00 rfl (Z0e rfl) ?_ | (refine Z0g rfl (fun h => ?_) (fun h => ?_) <;> (fail_if_success first | have := ntT h | have := ntF h) <;> (try simp only [tdyB] at h) <;> (try (exfalso; omega)) <;> (try (exfalso; omega; done))))
  refine Z1l (fun m σ w1 => ∃ (k : Int) (vo : Value), Has σ [(0, .slice A l.length c), (1, .slice A2 sp.length c2), (2, .slice A3 vs.length c3), (3, .int .i64 fr), (10, vo), (11, .int .i64 i), (12, .int .i64 k)] ∧ St w0 w1 [Z16 Z1d 63 vo ((sp.take i.toNat).filter (dlv l vs fr) ++ exK l vs fr (nth sp i) k)] ∧ 0 ≤ k ∧ k ≤ l.length ∧ m = l.length - k.toNat) l.length ⟨0, _, ⟨rfl, rfl, rfl, rfl, rfl, rfl, rfl, trivial⟩, by rw [show exK l vs fr (nth sp i) 0 = [] from rfl, List.append_nil]; exact S, by omega, by omega, by omega⟩ ?_
  clear S hs
  rintro m' σ w1 ⟨k, vo, hs, S, hk0, hk1, hm'⟩
  refine Z1o hs ?_
  by_cases hk : k < l.length
  ·have hcs := Zij (l := l) (id := (nth sp i).Contract) hk0 hk
   by_cases he : (nth l k).ID = (nth sp i).Contract
   ·have hn : Z49 (l.take k.toNat) (nth sp i).Contract = none := by rw [← he]; exact Zik h1 hk0 hk
    rw [hn, if_pos he, Option.none_or] at hcs
    have ex0 : exK l vs fr (nth sp i) k = [] := by unfold exK; rw [hn]
    have ex1 : exK l vs fr (nth sp i) (k + 1) = if Z6a vs ((nth sp i).At - fr) (nth l k).Item = true then [nth sp i] else [] := by unfold exK; rw [hcs]
    rw [ex0, List.append_nil] at S
    cases hh : Z6a vs ((nth sp i).At - fr) (nth l k).Item with
    | false =>
     rw [hh, if_neg (by simp)] at ex1
     repeat' (first | refine Z0a ?_ | refine Z02 ?_ | refine Z08 ?_ | refine Z01 ?_ | refine Z0h ?_ | refine Z0k ?_ | refine Z0f ?_ | refine Z18 rfl ?_ | refine Z1s (by kernel_rfl) (by kernel_rfl) ?_ | (refine Z1q ?_; intro w hb; replace S := S.grow hb; clear hb) | refine Z06 rfl ?_ | refine Z04 rfl ?_ | ((refine Z00 rfl (Z12 rfl rfl ?_ ?_) ?_; (first | omega | simp <;> omega); (first | omega | simp <;> omega))) | refine Z00 rfl (Z0z rfl rfl) ?_ | refine Z00 rfl (Z0e rfl) ?_ | (refine Z1e ?_; refine Z1r rfl ?_) | (refine Z2a ?_; refine Z2j rfl rfl ?_) | (refine Z3o ?_; (refine Z0c rfl (fun w' hb => Z12 rfl rfl ?_ ?_) ?_; (first | omega | simp <;> omega); (first | omega | simp <;> omega))) | (refine Z4h ?_; refine Z0c rfl (fun w' hb => Z2k rfl rfl) ?_) | (refine Z10 ?_; refine Z0c rfl (fun w' hb => Z1g rfl) ?_) | (refine Z0q ?_; first | (refine Z0c rfl (fun w' hb => Z07 (hr1.mono (S.grow hb).below) rfl rfl ?_ ?_) ?_; (first | omega | simp <;> omega); (first | omega | simp <;> omega)) | (refine Z0c rfl (fun w' hb => Z07 (hr2.mono (S.grow hb).below) rfl rfl ?_ ?_) ?_; (first | omega | simp <;> omega); (first | omega | simp <;> omega))) | (refine Z1f ?_; first | (refine Z0c rfl (fun w' hb => Z0i (hr1.mono (S.grow hb).below) rfl ?_ ?_ rfl) ?_; (first | omega | simp <;> omega); (first | omega | simp <;> omega)) | (refine Z0c rfl (fun w' hb => Z11 (hr1.mono (S.grow hb).below) rfl ?_ ?_ rfl) ?_; (first | omega | simp <;> omega); (first | omega | simp <;> omega)) | (refine Z0c rfl (fun w' hb => Z0i (hr2.mono (S.grow hb).below) rfl ?_ ?_ rfl) ?_; (first | omega | simp <;> omega); (first | omega | simp <;> omega)) | (refine Z0c rfl (fun w' hb => Z11 (hr2.mono (S.grow hb).below) rfl ?_ ?_ rfl) ?_; (first | omega | simp <;> omega); (first | omega | simp <;> omega))) | (refine Z1v ?_; refine Z20 rfl (fun w' hb => Z5m rfl rfl rfl rfl rfl rfl) (fun w' hb => Zhf (bb := false) (by rw [Zhg, hh]) (hr3.mono (S.grow hb).below) (by omega) (by omega) (by omega) (by omega)) ?_) | (refine Z21 rfl rfl (fun h => ?_) (fun h => ?_) <;> (fail_if_success first | have := ntT h | have := ntF h) <;> (try simp only [tdyB] at h) <;> (try (exfalso; omega)) <;> (try (exfalso; omega; done))) | (refine Z0g rfl (fun h => ?_) (fun h => ?_) <;> (fail_if_success first | have := ntT h | have := ntF h) <;> (try simp only [tdyB] at h) <;> (try (exfalso; omega)) <;> (try (exfalso; omega; done))))
     refine ⟨⟨_, ?_, k + 1, vo, ⟨rfl, rfl, rfl, rfl, rfl, rfl, rfl, trivial⟩, by rw [ex1, List.append_nil]; exact S, by omega, by omega, rfl⟩⟩
     omega
    | true =>
     rw [hh, if_pos rfl] at ex1
     repeat' (first | refine Z0a ?_ | refine Z02 ?_ | refine Z08 ?_ | refine Z01 ?_ | refine Z0k ?_ | refine Z0f ?_ | refine Z0v rfl ?_ | refine Z1s (by kernel_rfl) (by kernel_rfl) ?_ | (refine Z1q ?_; intro w hb; replace S := S.grow hb; clear hb) | refine Z06 rfl ?_ | refine Z00 rfl (Z0z rfl rfl) ?_ | refine Z00 rfl (Z0e rfl) ?_ | ((refine Z00 rfl (Z07 (hr2.mono S.below) rfl rfl ?_ ?_) ?_; (first | omega | simp <;> omega); (first | omega | simp <;> omega))) | ((refine Z00 rfl (Z19 (hr2.mono S.below) rfl ?_ ?_) ?_; (first | omega | simp <;> omega); (first | omega | simp <;> omega))) | (refine Z1e ?_; refine Z1r rfl ?_) | (refine Z2a ?_; refine Z2j rfl rfl ?_) | (refine Z3o ?_; (refine Z0c rfl (fun w' hb => Z12 rfl rfl ?_ ?_) ?_; (first | omega | simp <;> omega); (first | omega | simp <;> omega))) | (refine Z4h ?_; refine Z0c rfl (fun w' hb => Z2k rfl rfl) ?_) | (refine Z10 ?_; refine Z0c rfl (fun w' hb => Z1g rfl) ?_) | (refine Z0q ?_; first | (refine Z0c rfl (fun w' hb => Z07 (hr1.mono (S.grow hb).below) rfl rfl ?_ ?_) ?_; (first | omega | simp <;> omega); (first | omega | simp <;> omega)) | (refine Z0c rfl (fun w' hb => Z07 (hr2.mono (S.grow hb).below) rfl rfl ?_ ?_) ?_; (first | omega | simp <;> omega); (first | omega | simp <;> omega))) | (refine Z1f ?_; first | (refine Z0c rfl (fun w' hb => Z0i (hr1.mono (S.grow hb).below) rfl ?_ ?_ rfl) ?_; (first | omega | simp <;> omega); (first | omega | simp <;> omega)) | (refine Z0c rfl (fun w' hb => Z11 (hr1.mono (S.grow hb).below) rfl ?_ ?_ rfl) ?_; (first | omega | simp <;> omega); (first | omega | simp <;> omega)) | (refine Z0c rfl (fun w' hb => Z0i (hr2.mono (S.grow hb).below) rfl ?_ ?_ rfl) ?_; (first | omega | simp <;> omega); (first | omega | simp <;> omega)) | (refine Z0c rfl (fun w' hb => Z11 (hr2.mono (S.grow hb).below) rfl ?_ ?_ rfl) ?_; (first | omega | simp <;> omega); (first | omega | simp <;> omega))) | (refine Z1v ?_; refine Z20 rfl (fun w' hb => Z5m rfl rfl rfl rfl rfl rfl) (fun w' hb => Zhf (bb := true) (by rw [Zhg, hh]) (hr3.mono (S.grow hb).below) (by omega) (by omega) (by omega) (by omega)) ?_) | (refine Z21 rfl rfl (fun h => ?_) (fun h => ?_) <;> (fail_if_success first | have := ntT h | have := ntF h) <;> (try simp only [tdyB] at h) <;> (try (exfalso; omega)) <;> (try (exfalso; omega; done))) | (refine Z0g rfl (fun h => ?_) (fun h => ?_) <;> (fail_if_success first | have := ntT h | have := ntF h) <;> (try simp only [tdyB] at h) <;> (try (exfalso; omega)) <;> (try (exfalso; omega; done))))
     refine Z0n rfl (Z2z (D := Z1d) [nth sp i] (fun y => .agg y.enc.toArray) S rfl rfl (fun _ => rfl) rfl (by decide) (by decide)) ?_
     rintro _ w ⟨bl, rfl, -, hcl, S'⟩; replace S := S'; clear S'
     refine Z0n rfl (Z2t (D := Z1d) (i := 0) (b := bl) (x := nth sp i) S rfl rfl rfl (Z53 hcl) rfl (by decide) (Zky _) (by omega) (by omega)) ?_
     rintro vo' w ⟨-, S'⟩; replace S := S'; clear S' hcl
     repeat' (first | refine Z02 ?_ | refine Z08 ?_ | refine Z01 ?_ | refine Z0h ?_ | refine Z06 rfl ?_ | refine Z04 rfl ?_ | ((refine Z00 rfl (Z12 rfl rfl ?_ ?_) ?_; (first | omega | simp <;> omega); (first | omega | simp <;> omega))))
     refine ⟨⟨_, ?_, k + 1, vo', ⟨rfl, rfl, rfl, rfl, rfl, rfl, rfl, trivial⟩, by rw [ex1]; exact S.keep [true], by omega, by omega, rfl⟩⟩
     omega
   ·rw [if_neg he, Option.or_none] at hcs
    have ex1 : exK l vs fr (nth sp i) (k + 1) = exK l vs fr (nth sp i) k := by unfold exK; rw [hcs]
    repeat' (first | refine Z0a ?_ | refine Z02 ?_ | refine Z08 ?_ | refine Z01 ?_ | refine Z0h ?_ | refine Z0k ?_ | refine Z0f ?_ | refine Z18 rfl ?_ | refine Z1s (by kernel_rfl) (by kernel_rfl) ?_ | (refine Z1q ?_; intro w hb; replace S := S.grow hb; clear hb) | refine Z06 rfl ?_ | refine Z04 rfl ?_ | ((refine Z00 rfl (Z12 rfl rfl ?_ ?_) ?_; (first | omega | simp <;> omega); (first | omega | simp <;> omega))) | refine Z00 rfl (Z0z rfl rfl) ?_ | refine Z00 rfl (Z0e rfl) ?_ | (refine Z2y ?_; refine Z5l rfl ?_) | (refine Z1e ?_; refine Z1r rfl ?_) | (refine Z2a ?_; refine Z31 rfl rfl ?_) | (refine Z4h ?_; refine Z0c rfl (fun w' hb => Z2k rfl rfl) ?_) | (refine Z10 ?_; refine Z0c rfl (fun w' hb => Z1g rfl) ?_) | (refine Z0q ?_; first | (refine Z0c rfl (fun w' hb => Z07 (hr1.mono (S.grow hb).below) rfl rfl ?_ ?_) ?_; (first | omega | simp <;> omega); (first | omega | simp <;> omega)) | (refine Z0c rfl (fun w' hb => Z07 (hr2.mono (S.grow hb).below) rfl rfl ?_ ?_) ?_; (first | omega | simp <;> omega); (first | omega | simp <;> omega))) | (refine Z1f ?_; first | (refine Z0c rfl (fun w' hb => Z0i (hr1.mono (S.grow hb).below) rfl ?_ ?_ rfl) ?_; (first | omega | simp <;> omega); (first | omega | simp <;> omega)) | (refine Z0c rfl (fun w' hb => Z0i (hr2.mono (S.grow hb).below) rfl ?_ ?_ rfl) ?_; (first | omega | simp <;> omega); (first | omega | simp <;> omega))) | (refine Z21 rfl rfl (fun h => ?_) (fun h => ?_) <;> (fail_if_success first | have := ntT h | have := ntF h) <;> (try simp only [tdyB] at h) <;> (try (exfalso; omega)) <;> (try (exfalso; omega; done))) | (refine Z0g rfl (fun h => ?_) (fun h => ?_) <;> (fail_if_success first | have := ntT h | have := ntF h) <;> (try simp only [tdyB] at h) <;> (try (exfalso; omega)) <;> (try (exfalso; omega; done))))
    refine ⟨⟨_, ?_, k + 1, vo, ⟨rfl, rfl, rfl, rfl, rfl, rfl, rfl, trivial⟩, by rw [ex1]; exact S, by omega, by omega, rfl⟩⟩
    omega
  ·rw [exK_end (by omega), ← hft] at S
   repeat' (first | refine Z0a ?_ | refine Z02 ?_ | refine Z08 ?_ | refine Z01 ?_ | refine Z0h ?_ | refine Z0s ?_ | refine Z15 ?_ | refine Z1b ?_ | refine Z06 rfl ?_ | refine Z04 rfl ?_ | ((refine Z00 rfl (Z12 rfl rfl ?_ ?_) ?_; (first | omega | simp <;> omega); (first | omega | simp <;> omega))) | refine Z00 rfl (Z0z rfl rfl) ?_ | refine Z00 rfl (Z0e rfl) ?_ | (refine Z0g rfl (fun h => ?_) (fun h => ?_) <;> (fail_if_success first | have := ntT h | have := ntF h) <;> (try simp only [tdyB] at h) <;> (try (exfalso; omega)) <;> (try (exfalso; omega; done))))
   refine ⟨⟨_, ?_, i + 1, vo, ⟨rfl, rfl, rfl, rfl, rfl, rfl, trivial⟩, S, by omega, by omega, rfl⟩⟩
   omega
 ·rw [List.take_of_length_le (by omega)] at S
  repeat' (first | refine Z0a ?_ | refine Z02 ?_ | refine Z08 ?_ | refine Z01 ?_ | refine Z0s ?_ | refine Z15 ?_ | refine Z0r ?_ | refine Z1b ?_ | refine Z06 rfl ?_ | refine Z04 rfl ?_ | refine Z00 rfl (Z0z rfl rfl) ?_ | refine Z00 rfl (Z0e rfl) ?_ | (refine Z0g rfl (fun h => ?_) (fun h => ?_) <;> (fail_if_success first | have := ntT h | have := ntF h) <;> (try simp only [tdyB] at h) <;> (try (exfalso; omega)) <;> (try (exfalso; omega; done))))
  exact end2 rfl rfl rfl ⟨_, rfl, S.below, _, by rw [e]; rfl, by rw [e]; exact S.row (i := 0) rfl⟩

theorem Zl9 {l : List GContract} {sp : List GSpot} {r : List Int × Int} {v1 v2 : Value} {w0 : World} (h : dueI l sp = r) (hr1 : Rd Z14.ty w0 v1 l) (hr2 : Rd Z1d.ty w0 v2 sp) (hl1 : l.length ≤ 1000000000) (hl2 : sp.length ≤ 1000000000) :
  CallsR Tryd.prog 19 #[v1, v2] w0 (RowE w0 r) := by rw [← h]; exact Zhk hr1 hr2 hl1 hl2
set_option maxRecDepth 20000 in
set_option maxHeartbeats 4000000 in
theorem Zbo {acc cl day : Int} {L : List GPosting} {l : List GContract} {sp : List GSpot} {v v1 v2 : Value} {w0 : World} (hr : Rd Z0o.ty w0 v L) (hr1 : Rd Z14.ty w0 v1 l) (hr2 : Rd Z1d.ty w0 v2 sp) (hl : L.length ≤ 1000000) (hl1 : l.length ≤ 1000000000) (hl2 : sp.length ≤ 1000000000) :
  CallsR Tryd.prog 23 #[.agg (bkV acc v cl).toArray, v1, v2, .int .i64 day] w0 (Z5e w0 acc cl L l sp day) := by
 have S := St.start w0
 obtain ⟨A, c, rfl⟩ := hr.len
 obtain ⟨A1, c1, rfl⟩ := hr1.len
 have hno : ∀ {r w'}, setI acc cl L l sp day = none → r = .tuple #[.agg (bkV 0 (.slice none 0 0) 0).toArray, .int .i64 390] → Z5e w0 acc cl L l sp day r w' := fun h e => by unfold Z5e; rw [h]; exact e
 refine CallsR.mk ?_
 refine Z0l Tryd.func23 rfl (by intro _ h; first | exact nomatch h.1 | (obtain ⟨_, h, _⟩ := h; exact nomatch h)) Tryd.ntmps23 rfl ?_
 repeat' (first | refine Z0a ?_ | refine Z02 ?_ | refine Z08 ?_ | refine Z01 ?_ | refine Z06 rfl ?_ | refine Z04 rfl ?_ | (refine Z2g ?_; refine Z0n rfl (Z2h S rfl) ?_; rintro _ w ⟨b, rfl, -, S'⟩; replace S := S'; clear S') | (refine Z0n rfl (Z1i S) ?_; rintro _ w ⟨b, rfl, -, S'⟩; replace S := S'; clear S'))
 obtain ⟨b8, rfl⟩ : ∃ x, x = b := ⟨_, rfl⟩
 obtain ⟨b4, rfl⟩ : ∃ x, x = b := ⟨_, rfl⟩
 replace S : St w0 w [.var b4 27 (bkV acc (.slice A L.length c) cl), .var b8 27 (bkV 0 (.slice none 0 0) 0)] := S
 cases hok : okI l sp with
 | false =>
  have e : setI acc cl L l sp day = none := by unfold setI; rw [hok]; rfl
  refine Z25 rfl (Z0w rfl rfl rfl) (Zl9 (r := ([], 390)) (by unfold dueI; rw [hok]; rfl) (hr1.mono S.below) (hr2.mono S.below) hl1 hl2) ?_
  rintro _ w hb ⟨vd, rfl, hrow⟩
  replace S := S.new hb hrow; clear hb hrow
  repeat' (first | refine Z0a ?_ | refine Z02 ?_ | refine Z08 ?_ | refine Z01 ?_ | refine Z0x ?_ | refine Z0r ?_ | refine Z0v rfl ?_ | (refine Z1c ?_; refine Z1p rfl ?_) | refine Z06 rfl ?_ | refine Z04 rfl ?_ | refine Z0u rfl rfl ?_ | refine Z00 rfl (Z33 rfl rfl) ?_ | refine Z00 rfl (Z59 ) ?_ | refine Z00 rfl (Z0y rfl rfl) ?_ | (first | (refine Z05 rfl (Z03 (i := 0) S rfl rfl rfl rfl (dqq rfl) (dqq rfl)) ?_; clear S; intro w S) | (refine Z05 rfl (Z03 (i := 1) S rfl rfl rfl rfl (dqq rfl) (dqq rfl)) ?_; clear S; intro w S)))
  exact Z4u rfl rfl rfl S (i := 1) rfl rfl ⟨_, rfl, S.below, hno e rfl⟩
 | true =>
 obtain ⟨h1, h2⟩ := Zec hok
 have hl12 := Z5j h1
 obtain ⟨u, hu⟩ : ∃ u, dueL l sp = u := ⟨_, rfl⟩
 have hul : u.length = l.length := by rw [← hu, Zaa]
 have hun : ∀ j : Int, 0 ≤ j → j < l.length → nth u j = dueC (cntS l sp) (nth l j) := fun j h0 hj => by rw [← hu]; exact Zfs h0 hj
 refine Z25 rfl (Z0w rfl rfl rfl) (Zl9 (r := (u, 0)) (by unfold dueI; rw [hok, ← hu]; rfl) (hr1.mono S.below) (hr2.mono S.below) hl1 hl2) ?_
 rintro _ w hb ⟨vd, rfl, hrow⟩
 replace S := S.new hb hrow; clear hb hrow
 obtain ⟨AU, cU, hz⟩ := (S.rdRow (D := fInt .i64) (i := 2) rfl).len; subst hz
 cases hv : Z2d acc cl L with
 | false =>
  have e : setI acc cl L l sp day = none := by unfold setI; rw [hv]; simp
  repeat' (first | refine Z0a ?_ | refine Z02 ?_ | refine Z08 ?_ | refine Z01 ?_ | refine Z0x ?_ | refine Z0r ?_ | refine Z0v rfl ?_ | refine Z06 rfl ?_ | refine Z04 rfl ?_ | refine Z0t rfl rfl ?_ | refine Z00 rfl (Z33 rfl rfl) ?_ | refine Z00 rfl (Z59 ) ?_ | refine Z00 rfl (Z1w rfl) ?_ | refine Z00 rfl (Z0y rfl rfl) ?_ | refine Z00 rfl (Z0m (i := 0) S rfl rfl rfl rfl) ?_ | ((refine Z0j rfl (Z1h rfl rfl) (Z4z hv (hr.mono S.below) (by omega)) ?_; intro w hb; replace S := S.grow hb; clear hb)) | (first | (refine Z05 rfl (Z03 (i := 0) S rfl rfl rfl rfl (dqq rfl) (dqq rfl)) ?_; clear S; intro w S) | (refine Z05 rfl (Z03 (i := 1) S rfl rfl rfl rfl (dqq rfl) (dqq rfl)) ?_; clear S; intro w S)))
  exact Z4u rfl rfl rfl S (i := 1) rfl rfl ⟨_, rfl, S.below, hno e rfl⟩
 | true =>
 have hLl : L.length ≤ 200 := Zab (by unfold Z2d at hv; exact (Bool.and_eq_true_iff.1 hv).1)
 replace S : St w0 w [.var b4 27 (bkV acc (.slice A L.length c) cl), .var b8 27 (bkV 0 (.slice none 0 0) 0), Z16 (fInt .i64) 3 (.slice AU u.length cU) u] := S
 have hspo : ∀ j : Int, 0 ≤ j → j < l.length → 0 ≤ (nth l j).Sponsor ∧ (nth l j).Sponsor ≤ 11 := fun j h0 hj => by
  have := Z6g h1 (Z2e h0 hj)
  unfold okC okN at this
  simp only [Bool.and_eq_true, decide_eq_true_eq] at this
  omega
 repeat' (first | refine Z0a ?_ | refine Z02 ?_ | refine Z08 ?_ | refine Z01 ?_ | refine Z0k ?_ | refine Z0f ?_ | refine Z18 rfl ?_ | refine Z06 rfl ?_ | refine Z04 rfl ?_ | refine Z0t rfl rfl ?_ | refine Z00 rfl (Z33 rfl rfl) ?_ | refine Z00 rfl (Z1w rfl) ?_ | refine Z00 rfl (Z0y rfl rfl) ?_ | refine Z00 rfl (Z0m (i := 0) S rfl rfl rfl rfl) ?_ | ((refine Z0j rfl (Z1h rfl rfl) (Z4z hv (hr.mono S.below) (by omega)) ?_; intro w hb; replace S := S.grow hb; clear hb)))
 refine Z1l (fun m σ w1 => ∃ i : Int, Has σ [(1, .slice A1 l.length c1), (3, .int .i64 day), (4, .pointer (some ⟨b4, 0, none⟩)), (8, .pointer (some ⟨b8, 0, none⟩)), (10, .slice AU u.length cU), (12, .int .i64 i)] ∧ St w0 w1 [.var b4 27 (bkV acc (.slice A L.length c) cl), .var b8 27 (bkV 0 (.slice none 0 0) 0), Z16 (fInt .i64) 3 (.slice AU u.length cU) u] ∧ 0 ≤ i ∧ i ≤ l.length ∧ (∀ j : Int, 0 ≤ j → j < i → ¬ acc ≤ (nth l j).Sponsor + 1) ∧ m = l.length - i.toNat) l.length ⟨0, ⟨rfl, rfl, rfl, rfl, rfl, rfl, trivial⟩, S, by omega, by omega, fun j p q => by omega, by omega⟩ ?_
 clear S
 rintro m σ w1 ⟨i, hs, S, hi0, hi1, hall, hm⟩
 refine Z1o hs ?_
 by_cases hi : i < l.length
 ·have hsr := hspo i hi0 hi
  by_cases hst : acc ≤ (nth l i).Sponsor + 1
  ·have e : setI acc cl L l sp day = none := by
    have : strB acc l = true := List.any_eq_true.2 ⟨_, Z2e hi0 hi, decide_eq_true hst⟩
    unfold setI; rw [this]; simp
   repeat' (first | refine Z0a ?_ | refine Z02 ?_ | refine Z08 ?_ | refine Z01 ?_ | refine Z0x ?_ | refine Z27 ?_ | refine Z0r ?_ | refine Z0k ?_ | refine Z0f ?_ | refine Z1s (by kernel_rfl) (by kernel_rfl) ?_ | (refine Z1q ?_; intro w hb; replace S := S.grow hb; clear hb) | refine Z06 rfl ?_ | refine Z04 rfl ?_ | refine Z00 rfl (Z0z rfl rfl) ?_ | refine Z00 rfl (Z59 ) ?_ | refine Z00 rfl (Z0e rfl) ?_ | (refine Z1e ?_; refine Z1r rfl ?_) | (refine Z3o ?_; (refine Z0c rfl (fun w' hb => Z12 rfl rfl ?_ ?_) ?_; (first | omega | simp <;> omega); (first | omega | simp <;> omega))) | (refine Z3k ?_; refine Z0c rfl (fun w' hb => Z2x rfl rfl) ?_) | (refine Z10 ?_; first | refine Z0c rfl (fun w' hb => Z09 rfl) ?_ | refine Z0c rfl (fun w' hb => Z1g rfl) ?_) | (refine Z0q ?_; (refine Z0c rfl (fun w' hb => Z07 (hr1.mono (S.grow hb).below) rfl rfl ?_ ?_) ?_; (first | omega | simp <;> omega); (first | omega | simp <;> omega))) | (refine Z1f ?_; first | (refine Z0c rfl (fun w' hb => Z11 (hr1.mono (S.grow hb).below) rfl ?_ ?_ rfl) ?_; (first | omega | simp <;> omega); (first | omega | simp <;> omega)) | refine Z0c rfl (fun w' hb => Z0b (i := 0) (S.grow hb) rfl rfl rfl) ?_) | (first | (refine Z05 rfl (Z03 (i := 0) S rfl rfl rfl rfl (dqq rfl) (dqq rfl)) ?_; clear S; intro w S) | (refine Z05 rfl (Z03 (i := 1) S rfl rfl rfl rfl (dqq rfl) (dqq rfl)) ?_; clear S; intro w S)) | (refine Z0g rfl (fun h => ?_) (fun h => ?_) <;> (fail_if_success first | have := ntT h | have := ntF h) <;> (try simp only [tdyB] at h) <;> (try (exfalso; omega)) <;> (try (exfalso; omega; done))))
   exact Z4u rfl rfl rfl S (i := 1) rfl rfl ⟨_, rfl, S.below, hno e rfl⟩
  ·repeat' (first | refine Z0a ?_ | refine Z02 ?_ | refine Z08 ?_ | refine Z01 ?_ | refine Z0h ?_ | refine Z0k ?_ | refine Z0f ?_ | refine Z1s (by kernel_rfl) (by kernel_rfl) ?_ | (refine Z1q ?_; intro w hb; replace S := S.grow hb; clear hb) | refine Z06 rfl ?_ | refine Z04 rfl ?_ | ((refine Z00 rfl (Z12 rfl rfl ?_ ?_) ?_; (first | omega | simp <;> omega); (first | omega | simp <;> omega))) | refine Z00 rfl (Z0z rfl rfl) ?_ | refine Z00 rfl (Z0e rfl) ?_ | (refine Z1e ?_; refine Z1r rfl ?_) | (refine Z3o ?_; (refine Z0c rfl (fun w' hb => Z12 rfl rfl ?_ ?_) ?_; (first | omega | simp <;> omega); (first | omega | simp <;> omega))) | (refine Z3k ?_; refine Z0c rfl (fun w' hb => Z2x rfl rfl) ?_) | (refine Z10 ?_; first | refine Z0c rfl (fun w' hb => Z09 rfl) ?_ | refine Z0c rfl (fun w' hb => Z1g rfl) ?_) | (refine Z0q ?_; (refine Z0c rfl (fun w' hb => Z07 (hr1.mono (S.grow hb).below) rfl rfl ?_ ?_) ?_; (first | omega | simp <;> omega); (first | omega | simp <;> omega))) | (refine Z1f ?_; first | (refine Z0c rfl (fun w' hb => Z11 (hr1.mono (S.grow hb).below) rfl ?_ ?_ rfl) ?_; (first | omega | simp <;> omega); (first | omega | simp <;> omega)) | refine Z0c rfl (fun w' hb => Z0b (i := 0) (S.grow hb) rfl rfl rfl) ?_) | (refine Z0g rfl (fun h => ?_) (fun h => ?_) <;> (fail_if_success first | have := ntT h | have := ntF h) <;> (try simp only [tdyB] at h) <;> (try (exfalso; omega)) <;> (try (exfalso; omega; done))))
   refine ⟨⟨_, ?_, i + 1, ⟨rfl, rfl, rfl, rfl, rfl, rfl, trivial⟩, S, by omega, by omega, fun j p q => ?_, rfl⟩⟩
   ·omega
   ·by_cases e : j = i
    ·subst e; exact hst
    ·exact hall j p (by omega)
 have hst : strB acc l = false := by
  unfold strB
  rw [List.any_eq_false]
  intro x hx
  obtain ⟨j, hj⟩ := List.getElem?_of_mem hx
  have hlt := (List.getElem?_eq_some_iff.1 hj).1
  have h3 := Z1u (l := l) (i := (j : Int)) (by omega) (by omega)
  rw [Int.toNat_natCast, hj] at h3
  rw [Option.some.inj h3]
  simpa using hall j (by omega) (by omega)
 have eS : setI acc cl L l sp day = setL acc cl day (dueC (cntS l sp)) l L := by unfold setI; rw [hok, hv, hst]; rfl
 repeat' (first | refine Z0a ?_ | refine Z02 ?_ | refine Z08 ?_ | refine Z01 ?_ | refine Z0s ?_ | refine Z15 ?_ | refine Z1b ?_ | refine Z06 rfl ?_ | refine Z00 rfl (Z0z rfl rfl) ?_ | refine Z00 rfl (Z0e rfl) ?_ | (refine Z0g rfl (fun h => ?_) (fun h => ?_) <;> (fail_if_success first | have := ntT h | have := ntF h) <;> (try simp only [tdyB] at h) <;> (try (exfalso; omega)) <;> (try (exfalso; omega; done))))
 refine Z2c (fun σ w1 => ∃ (AB : Option Addr) (cB b13 : Nat), Has σ [(1, .slice A1 l.length c1), (3, .int .i64 day), (8, .pointer (some ⟨b8, 0, none⟩)), (10, .slice AU u.length cU), (13, .pointer (some ⟨b13, 0, none⟩))] ∧ St w0 w1 [.var b8 27 (bkV 0 (.slice none 0 0) 0), Z16 (fInt .i64) 3 (.slice AU u.length cU) u, .var b13 27 (bkV acc (.slice AB L.length cB) cl), rowP (.slice AB L.length cB) L]) ?_ ?_
 ·refine Z3r (fun w' => St w0 w' [.var b4 27 (bkV acc (.slice A L.length c) cl), .var b8 27 (bkV 0 (.slice none 0 0) 0), Z16 (fInt .i64) 3 (.slice AU u.length cU) u]) (.vals [0, 3, 6, 1, 4, 7] (.two 2 (.two 5 (.vals [8] (.one 9 (.one 10 .fin))) 9 (.one 5 (.vals [8] (.one 10 .fin)))) 9 (.one 2 (.one 5 (.vals [8] (.one 10 .fin)))))) (by kernel_rfl) (by decide) (by decide +kernel) (fun w' hb => S.grow hb) ?_
  intro w' hb; replace S := S.grow hb; clear hb
  refine Z1y ?_
  refine Z0p rfl (fun w' hJ => Z09 rfl) ?_
  refine Z0p rfl (fun w' hJ => Z09 rfl) ?_
  refine Z0p rfl (fun w' hJ => Z09 rfl) ?_
  refine Z0p (v := .int .i64 acc) rfl (fun w' hJ => Z0b (i := 0) hJ rfl rfl rfl) ?_
  refine Z0p (v := .slice A L.length c) rfl (fun w' hJ => Z0b (i := 0) hJ rfl rfl rfl) ?_
  refine Z0p (v := .int .i64 cl) rfl (fun w' hJ => Z0b (i := 0) hJ rfl rfl rfl) ?_
  refine Z1z ?_
  refine Zbm ?_ ?_
  ·refine Z2i rfl (Z9e (D := Z0o) S) ?_; rintro vn w ⟨-, S'⟩; replace S := S'; clear S'; refine ⟨S.keep [true, true, true], ?_⟩
   refine Zbm ?_ ?_
   ·refine Z2i rfl (Z3j (D := Z0o) (i := 3) S rfl (hr.mono S.below) rfl rfl rfl (by decide) Z6b (by simp; omega) (by simp; omega)) ?_; rintro va w ⟨-, S'⟩; replace S := S'; clear S'; obtain ⟨AB, cB, hz⟩ := (S.rdRow (D := Z0o) (i := 3) rfl).len; subst hz; refine ⟨S.keep [true, true, true], ?_⟩
    refine Z1y ?_; refine Z0p rfl (fun w' hJ => Z5i rfl rfl rfl) ?_; refine Z1z ?_
    refine Z2b ?_; refine Z2i rfl (Z1i S) ?_; rintro _ w ⟨b13, rfl, -, S'⟩; replace S := S'; clear S'; refine ⟨S.keep [true, true, true], ?_⟩
    refine Z2b ?_; refine Z3c rfl (Z03 (i := 4) S rfl rfl rfl rfl (dqq rfl) (dqq rfl)) ?_; clear S; intro w S; refine ⟨S.keep [true, true, true], ?_⟩
    refine Z3t ?_; refine Z1x ?_; exact ⟨AB, cB, b13, ⟨rfl, rfl, rfl, rfl, rfl, trivial⟩, (S.keep [false, true, true, true, true]).perm (List.Perm.cons _ (List.Perm.cons _ (List.Perm.swap _ _ _)))⟩
   ·refine Z2i rfl (Z1i S) ?_; rintro _ w ⟨b13, rfl, -, S'⟩; replace S := S'; clear S'; refine ⟨S.keep [true, true, true], ?_⟩
    refine Z2b ?_; refine Z2i rfl (Z3j (D := Z0o) (i := 3) S rfl (hr.mono S.below) rfl rfl rfl (by decide) Z6b (by simp; omega) (by simp; omega)) ?_; rintro va w ⟨-, S'⟩; replace S := S'; clear S'; obtain ⟨AB, cB, hz⟩ := (S.rdRow (D := Z0o) (i := 3) rfl).len; subst hz; refine ⟨S.keep [true, true, true], ?_⟩
    refine Z1y ?_; refine Z0p rfl (fun w' hJ => Z5i rfl rfl rfl) ?_; refine Z1z ?_
    refine Z2b ?_; refine Z3c rfl (Z03 (i := 4) S rfl rfl rfl rfl (dqq rfl) (dqq rfl)) ?_; clear S; intro w S; refine ⟨S.keep [true, true, true], ?_⟩
    refine Z3t ?_; refine Z1x ?_; exact ⟨AB, cB, b13, ⟨rfl, rfl, rfl, rfl, rfl, trivial⟩, (S.keep [false, true, true, true, true]).perm (List.Perm.cons _ (List.Perm.cons _ (List.Perm.swap _ _ _)))⟩
  ·refine Z2i rfl (Z1i S) ?_; rintro _ w ⟨b13, rfl, -, S'⟩; replace S := S'; clear S'; refine ⟨S.keep [true, true, true], ?_⟩
   refine Z2b ?_; refine Z2i rfl (Z9e (D := Z0o) S) ?_; rintro vn w ⟨-, S'⟩; replace S := S'; clear S'; refine ⟨S.keep [true, true, true], ?_⟩
   refine Z2b ?_; refine Z2i rfl (Z3j (D := Z0o) (i := 4) S rfl (hr.mono S.below) rfl rfl rfl (by decide) Z6b (by simp; omega) (by simp; omega)) ?_; rintro va w ⟨-, S'⟩; replace S := S'; clear S'; obtain ⟨AB, cB, hz⟩ := (S.rdRow (D := Z0o) (i := 4) rfl).len; subst hz; refine ⟨S.keep [true, true, true], ?_⟩
   refine Z1y ?_; refine Z0p rfl (fun w' hJ => Z5i rfl rfl rfl) ?_; refine Z1z ?_
   refine Z2b ?_; refine Z3c rfl (Z03 (i := 3) S rfl rfl rfl rfl (dqq rfl) (dqq rfl)) ?_; clear S; intro w S; refine ⟨S.keep [true, true, true], ?_⟩
   refine Z3t ?_; refine Z1x ?_; exact ⟨AB, cB, b13, ⟨rfl, rfl, rfl, rfl, rfl, trivial⟩, S.keep [false, true, true, true, true]⟩
 clear S hs hi hm
 rintro σ w1 ⟨AB, cB, b13, hs, S⟩
 refine Z1o hs ?_
 repeat' (first | refine Z0a ?_ | refine Z02 ?_ | refine Z08 ?_ | refine Z01 ?_ | refine Z0f ?_ | refine Z04 rfl ?_)
 refine Z1l (fun m σ w1 => ∃ (i : Int) (Lc : List GPosting) (AB : Option Addr) (cB : Nat), Has σ [(1, .slice A1 l.length c1), (3, .int .i64 day), (8, .pointer (some ⟨b8, 0, none⟩)), (10, .slice AU u.length cU), (13, .pointer (some ⟨b13, 0, none⟩)), (14, .int .i64 i)] ∧ St w0 w1 [.var b8 27 (bkV 0 (.slice none 0 0) 0), Z16 (fInt .i64) 3 (.slice AU u.length cU) u, .var b13 27 (bkV acc (.slice AB Lc.length cB) cl), rowP (.slice AB Lc.length cB) Lc] ∧ 0 ≤ i ∧ i ≤ l.length ∧ Lc.length ≤ 200 + 2 * i ∧ setL acc cl day (dueC (cntS l sp)) (l.drop i.toNat) Lc = setL acc cl day (dueC (cntS l sp)) l L ∧ m = l.length - i.toNat) l.length ⟨0, L, AB, cB, ⟨rfl, rfl, rfl, rfl, rfl, rfl, trivial⟩, S, by omega, by omega, by omega, rfl, by omega⟩ ?_
 clear S hs hall
 rintro m σ w1 ⟨i, Lc, AB, cB, hs, S, hi0, hi1, hlc, hset, hm⟩
 refine Z1o hs ?_
 by_cases hi : i < l.length
 ·have hsr := hspo i hi0 hi
  have hui := hun i hi0 hi
  rw [Zep hi0 hi, setL, ← hui] at hset
  obtain ⟨k, hk⟩ : ∃ k, Z3y Lc (nth l i).ID = k := ⟨_, rfl⟩
  have hkr := @Zbh Lc (nth l i).ID
  rw [hk] at hkr
  by_cases hA : 0 ≤ k ∧ (nth Lc k).Amount ≠ nth u i
  ·have he : Z39 acc cl Lc (nth l i) (nth u i) day = if Z38 acc cl Lc k day (nth u i) = true then some (Z70 Lc k day (nth u i)) else none := by unfold Z39; rw [hk, if_pos hA]
   repeat' (first | refine Z0a ?_ | refine Z02 ?_ | refine Z08 ?_ | refine Z01 ?_ | refine Z0k ?_ | refine Z0f ?_ | refine Z28 6 (by kernel_rfl) (by decide +kernel) ?_ | (refine Z1q ?_; intro w hb; replace S := S.grow hb; clear hb) | refine Z06 rfl ?_ | refine Z04 rfl ?_ | refine Z00 rfl (Z0z rfl rfl) ?_ | refine Z00 rfl (Z0e rfl) ?_ | refine Z00 rfl (Z0m (i := 2) S rfl rfl rfl rfl) ?_ | ((refine Z0j rfl (Z0w rfl rfl rfl) (Z9a hk (S.rdRow (D := Z0o) (i := 3) rfl) (by omega)) ?_; intro w hb; replace S := S.grow hb; clear hb)) | (refine Z1e ?_; refine Z1r rfl ?_) | (refine Z10 ?_; refine Z0c rfl (fun w' hb => Z1g rfl) ?_) | (refine Z0q ?_; (refine Z0c rfl (fun w' hb => Z07 (hr1.mono (S.grow hb).below) rfl rfl ?_ ?_) ?_; (first | omega | simp <;> omega); (first | omega | simp <;> omega))) | (refine Z1f ?_; first | (refine Z0c rfl (fun w' hb => Z0i (hr1.mono (S.grow hb).below) rfl ?_ ?_ rfl) ?_; (first | omega | simp <;> omega); (first | omega | simp <;> omega)) | refine Z0c rfl (fun w' hb => Z0m (i := 2) (S.grow hb) rfl rfl rfl rfl) ?_) | (refine Z0n rfl (Z1i S) ?_; rintro _ w ⟨b, rfl, -, S'⟩; replace S := S'; clear S') | (first | (refine Z05 rfl (Z03 (i := 0) S rfl rfl rfl rfl (dqq rfl) (dqq rfl)) ?_; clear S; intro w S) | (refine Z05 rfl (Z03 (i := 1) S rfl rfl rfl rfl (dqq rfl) (dqq rfl)) ?_; clear S; intro w S) | (refine Z05 rfl (Z03 (i := 2) S rfl rfl rfl rfl (dqq rfl) (dqq rfl)) ?_; clear S; intro w S) | (refine Z05 rfl (Z03 (i := 3) S rfl rfl rfl rfl (dqq rfl) (dqq rfl)) ?_; clear S; intro w S) | (refine Z05 rfl (Z03 (i := 4) S rfl rfl rfl rfl (dqq rfl) (dqq rfl)) ?_; clear S; intro w S)) | (refine Z0g rfl (fun h => ?_) (fun h => ?_) <;> (fail_if_success first | have := ntT h | have := ntF h) <;> (try simp only [tdyB] at h) <;> (try (exfalso; omega)) <;> (try (exfalso; omega; done))))
   obtain ⟨b16, rfl⟩ : ∃ x, x = b := ⟨_, rfl⟩
   replace S : St w0 w [.var b8 27 (bkV 0 (.slice none 0 0) 0), Z16 (fInt .i64) 3 (.slice AU u.length cU) u, .var b13 27 (bkV acc (.slice AB Lc.length cB) cl), rowP (.slice AB Lc.length cB) Lc, .var b16 27 (bkV acc (.slice AB Lc.length cB) cl)] := S
   refine Z1s (by kernel_rfl) (by kernel_rfl) ?_
   repeat' (first | refine Z01 ?_ | (refine Z1q ?_; intro w hb; replace S := S.grow hb; clear hb) | (refine Z1e ?_; refine Z1r rfl ?_) | (refine Z2a ?_; refine Z2j rfl rfl ?_) | (refine Z86 ?_; refine Z0c rfl (fun w' hb => Z33 rfl rfl) ?_) | (refine Z3k ?_; refine Z0c rfl (fun w' hb => Z2x rfl rfl) ?_) | (refine Z10 ?_; first | refine Z0c rfl (fun w' hb => Z09 rfl) ?_ | refine Z0c rfl (fun w' hb => Z1g rfl) ?_) | (refine Z0q ?_; first | (refine Z0c rfl (fun w' hb => Z07 ((S.grow hb).rdRow (D := (fInt .i64)) (i := 1) rfl) rfl rfl ?_ ?_) ?_; (first | omega | simp <;> omega); (first | omega | simp <;> omega)) | (refine Z0c rfl (fun w' hb => Z07 ((S.grow hb).rdRow (D := Z0o) (i := 3) rfl) rfl rfl ?_ ?_) ?_; (first | omega | simp <;> omega); (first | omega | simp <;> omega))) | (refine Z1f ?_; first | (refine Z0c rfl (fun w' hb => Z0i ((S.grow hb).rdRow (D := (fInt .i64)) (i := 1) rfl) rfl ?_ ?_ rfl) ?_; (first | omega | simp <;> omega); (first | omega | simp <;> omega)) | (refine Z0c rfl (fun w' hb => Z11 ((S.grow hb).rdRow (D := Z0o) (i := 3) rfl) rfl ?_ ?_ rfl) ?_; (first | omega | simp <;> omega); (first | omega | simp <;> omega)) | refine Z0c rfl (fun w' hb => Z0b (i := 2) (S.grow hb) rfl rfl rfl) ?_) | (refine Z21 rfl rfl (fun h => ?_) (fun h => ?_) <;> (fail_if_success first | have := ntT h | have := ntF h) <;> (try simp only [tdyB] at h) <;> (try (exfalso; omega)) <;> (try (exfalso; omega; done))) | (refine Z0g rfl (fun h => ?_) (fun h => ?_) <;> (fail_if_success first | have := ntT h | have := ntF h) <;> (try simp only [tdyB] at h) <;> (try (exfalso; omega)) <;> (try (exfalso; omega; done))))
   refine Z3r (fun w' => St w0 w' [.var b8 27 (bkV 0 (.slice none 0 0) 0), Z16 (fInt .i64) 3 (.slice AU u.length cU) u, .var b13 27 (bkV acc (.slice AB Lc.length cB) cl), rowP (.slice AB Lc.length cB) Lc]) (.vals [0, 1, 2, 3, 4, 5, 6] (.one 7 (.vals [8, 9, 10] (.one 11 (.vals [12] .fin))))) (by kernel_rfl) (by decide) (by decide +kernel) (fun w' hb => (S.grow hb).keep [true, true, true, true]) ?_
   intro w' hb; replace S := S.grow hb; clear hb
   refine Z1y ?_
   repeat' (first | refine Z1z ?_ | (refine Z3i ?_; refine Z0p rfl (fun w' hJ => ⟨rfl⟩) ?_) | (refine Z2n ?_; refine Z0p rfl (fun w' hJ => ⟨rfl⟩) ?_) | (refine Z6t ?_; (refine Z0p rfl (fun w' hJ => Z07 (hJ.rdRow (D := (fInt .i64)) (i := 1) rfl) rfl rfl ?_ ?_) ?_; (first | omega | simp <;> omega); (first | omega | simp <;> omega))) | (refine Z5b ?_; first | (refine Z0p rfl (fun w' hJ => Z0i (hJ.rdRow (D := (fInt .i64)) (i := 1) rfl) rfl ?_ ?_ rfl) ?_; (first | omega | simp <;> omega); (first | omega | simp <;> omega)) | refine Z0p rfl (fun w' hJ => Z0m (i := 2) hJ rfl rfl rfl rfl) ?_))
   refine Z2b ?_
   refine Z3q rfl (Z3g rfl rfl rfl rfl rfl) (Zev (acc := acc) (cl := cl) (i := k) (day := day) (amount := nth u i) (S.rdRow (D := Z0o) (i := 3) rfl) (by omega)) ?_
   rintro r w hb hR
   unfold Z96 at hR
   cases hD : Z38 acc cl Lc k day (nth u i) with
   | false =>
    rw [hD, if_neg (by simp)] at hR he
    subst hR
    replace S := S.grow hb; clear hb
    rw [he] at hset
    have e : setI acc cl L l sp day = none := by rw [eS, ← hset]
    refine ⟨S.keep [true, true, true, true], ?_⟩
    refine Z1y ?_; refine Z0p rfl (fun w' hJ => ⟨rfl⟩) ?_; refine Z0p rfl (fun w' hJ => Z0y rfl rfl) ?_; refine Z0p rfl (fun w' hJ => Z0y rfl rfl) ?_; refine Z1z ?_
    refine Z2b ?_; refine Z3c rfl (Z03 (i := 4) S rfl rfl rfl rfl (dqq rfl) (dqq rfl)) ?_; clear S; intro w S; refine ⟨S.keep [true, true, true, true], ?_⟩
    refine Z1y ?_; refine Z0p rfl (fun w' hJ => ⟨rfl⟩) ?_; refine Z1z ?_; refine Z3t ?_; refine Z1x ?_
    repeat' (first | refine Z0a ?_ | refine Z02 ?_ | refine Z08 ?_ | refine Z01 ?_ | refine Z0x ?_ | refine Z27 ?_ | refine Z0r ?_ | refine Z0k ?_ | refine Z0v rfl ?_ | refine Z18 rfl ?_ | (refine Z1c ?_; refine Z1p rfl ?_) | refine Z06 rfl ?_ | refine Z04 rfl ?_ | refine Z0t rfl rfl ?_ | refine Z00 rfl (Z33 rfl rfl) ?_ | refine Z00 rfl (Z0z rfl rfl) ?_ | refine Z00 rfl (Z59 ) ?_ | (first | (refine Z05 rfl (Z03 (i := 0) S rfl rfl rfl rfl (dqq rfl) (dqq rfl)) ?_; clear S; intro w S) | (refine Z05 rfl (Z03 (i := 1) S rfl rfl rfl rfl (dqq rfl) (dqq rfl)) ?_; clear S; intro w S) | (refine Z05 rfl (Z03 (i := 2) S rfl rfl rfl rfl (dqq rfl) (dqq rfl)) ?_; clear S; intro w S) | (refine Z05 rfl (Z03 (i := 3) S rfl rfl rfl rfl (dqq rfl) (dqq rfl)) ?_; clear S; intro w S) | (refine Z05 rfl (Z03 (i := 4) S rfl rfl rfl rfl (dqq rfl) (dqq rfl)) ?_; clear S; intro w S)) | (refine Z13 rfl rfl (fun h => ?_) (fun h => ?_) <;> (fail_if_success first | have := ntT h | have := ntF h) <;> (try simp only [tdyB] at h) <;> (try (exfalso; omega)) <;> (try (exfalso; revert h; decide)) <;> (try (exfalso; omega; done))))
    exact Z4u rfl rfl rfl S (i := 0) rfl rfl ⟨_, rfl, S.below, hno e rfl⟩
   | true =>
    rw [hD, if_pos rfl] at hR he
    obtain ⟨v2, rfl, S'⟩ := hR
    obtain ⟨A2, c2, hz⟩ := (S'.rdRow (D := Z0o) (i := 0) rfl).len; subst hz
    replace S := S.join S'
    clear S' hb
    have hle := Z6j he
    rw [he] at hset
    refine ⟨S.keep [true, true, true, true], ?_⟩
    refine Z1y ?_; refine Z0p rfl (fun w' hJ => ⟨rfl⟩) ?_; refine Z0p rfl (fun w' hJ => Z0y rfl rfl) ?_; refine Z0p rfl (fun w' hJ => Z0y rfl rfl) ?_; refine Z1z ?_
    refine Z2b ?_; refine Z3c rfl (Z03 (i := 4) S rfl rfl rfl rfl (dqq rfl) (dqq rfl)) ?_; clear S; intro w S; refine ⟨S.keep [true, true, true, true], ?_⟩
    refine Z1y ?_; refine Z0p rfl (fun w' hJ => ⟨rfl⟩) ?_; refine Z1z ?_; refine Z3t ?_; refine Z1x ?_
    repeat' (first | refine Z0a ?_ | refine Z02 ?_ | refine Z08 ?_ | refine Z01 ?_ | refine Z0h ?_ | refine Z0k ?_ | refine Z18 rfl ?_ | (refine Z1c ?_; refine Z1p rfl ?_) | refine Z06 rfl ?_ | refine Z04 rfl ?_ | refine Z0t rfl rfl ?_ | ((refine Z00 rfl (Z12 rfl rfl ?_ ?_) ?_; (first | omega | simp <;> omega); (first | omega | simp <;> omega))) | refine Z00 rfl (Z33 rfl rfl) ?_ | refine Z00 rfl (Z0z rfl rfl) ?_ | refine Z00 rfl (Z0m (i := 4) S rfl rfl rfl rfl) ?_ | (first | (refine Z05 rfl (Z03 (i := 0) S rfl rfl rfl rfl (dqq rfl) (dqq rfl)) ?_; clear S; intro w S) | (refine Z05 rfl (Z03 (i := 1) S rfl rfl rfl rfl (dqq rfl) (dqq rfl)) ?_; clear S; intro w S) | (refine Z05 rfl (Z03 (i := 2) S rfl rfl rfl rfl (dqq rfl) (dqq rfl)) ?_; clear S; intro w S) | (refine Z05 rfl (Z03 (i := 3) S rfl rfl rfl rfl (dqq rfl) (dqq rfl)) ?_; clear S; intro w S) | (refine Z05 rfl (Z03 (i := 4) S rfl rfl rfl rfl (dqq rfl) (dqq rfl)) ?_; clear S; intro w S)) | (refine Z13 rfl rfl (fun h => ?_) (fun h => ?_) <;> (fail_if_success first | have := ntT h | have := ntF h) <;> (try simp only [tdyB] at h) <;> (try (exfalso; omega)) <;> (try (exfalso; revert h; decide)) <;> (try (exfalso; omega; done))))
    refine ⟨⟨_, ?_, i + 1, Z70 Lc k day (nth u i), A2, c2, ⟨rfl, rfl, rfl, rfl, rfl, rfl, trivial⟩, S.keep [true, true, true, false, false, true], by omega, by omega, by omega, hset, rfl⟩⟩
    omega
  ·by_cases hB : k < 0 ∧ 0 < nth u i
   ·have he : Z39 acc cl Lc (nth l i) (nth u i) day = if Z3a acc cl Lc (Z5t day (nth u i) (nth l i)) = true then some (Lc ++ [Z5t day (nth u i) (nth l i)]) else none := by unfold Z39; rw [hk, if_neg hA, if_pos hB]
    repeat' (first | refine Z0a ?_ | refine Z02 ?_ | refine Z08 ?_ | refine Z01 ?_ | refine Z0k ?_ | refine Z0f ?_ | refine Z28 6 (by kernel_rfl) (by decide +kernel) ?_ | (refine Z1q ?_; intro w hb; replace S := S.grow hb; clear hb) | refine Z06 rfl ?_ | refine Z04 rfl ?_ | refine Z00 rfl (Z0z rfl rfl) ?_ | refine Z00 rfl (Z0e rfl) ?_ | refine Z00 rfl (Z0m (i := 2) S rfl rfl rfl rfl) ?_ | ((refine Z0j rfl (Z0w rfl rfl rfl) (Z9a hk (S.rdRow (D := Z0o) (i := 3) rfl) (by omega)) ?_; intro w hb; replace S := S.grow hb; clear hb)) | (refine Z1e ?_; refine Z1r rfl ?_) | (refine Z10 ?_; refine Z0c rfl (fun w' hb => Z1g rfl) ?_) | (refine Z0q ?_; (refine Z0c rfl (fun w' hb => Z07 (hr1.mono (S.grow hb).below) rfl rfl ?_ ?_) ?_; (first | omega | simp <;> omega); (first | omega | simp <;> omega))) | (refine Z1f ?_; first | (refine Z0c rfl (fun w' hb => Z0i (hr1.mono (S.grow hb).below) rfl ?_ ?_ rfl) ?_; (first | omega | simp <;> omega); (first | omega | simp <;> omega)) | refine Z0c rfl (fun w' hb => Z0m (i := 2) (S.grow hb) rfl rfl rfl rfl) ?_) | (refine Z0n rfl (Z1i S) ?_; rintro _ w ⟨b, rfl, -, S'⟩; replace S := S'; clear S') | (first | (refine Z05 rfl (Z03 (i := 0) S rfl rfl rfl rfl (dqq rfl) (dqq rfl)) ?_; clear S; intro w S) | (refine Z05 rfl (Z03 (i := 1) S rfl rfl rfl rfl (dqq rfl) (dqq rfl)) ?_; clear S; intro w S) | (refine Z05 rfl (Z03 (i := 2) S rfl rfl rfl rfl (dqq rfl) (dqq rfl)) ?_; clear S; intro w S) | (refine Z05 rfl (Z03 (i := 3) S rfl rfl rfl rfl (dqq rfl) (dqq rfl)) ?_; clear S; intro w S) | (refine Z05 rfl (Z03 (i := 4) S rfl rfl rfl rfl (dqq rfl) (dqq rfl)) ?_; clear S; intro w S)) | (refine Z0g rfl (fun h => ?_) (fun h => ?_) <;> (fail_if_success first | have := ntT h | have := ntF h) <;> (try simp only [tdyB] at h) <;> (try (exfalso; omega)) <;> (try (exfalso; omega; done))))
    obtain ⟨b16, rfl⟩ : ∃ x, x = b := ⟨_, rfl⟩
    replace S : St w0 w [.var b8 27 (bkV 0 (.slice none 0 0) 0), Z16 (fInt .i64) 3 (.slice AU u.length cU) u, .var b13 27 (bkV acc (.slice AB Lc.length cB) cl), rowP (.slice AB Lc.length cB) Lc, .var b16 27 (bkV acc (.slice AB Lc.length cB) cl)] := S
    refine Z1s (by kernel_rfl) (by kernel_rfl) ?_
    repeat' (first | refine Z0a ?_ | refine Z02 ?_ | refine Z08 ?_ | refine Z01 ?_ | refine Z0k ?_ | refine Z18 rfl ?_ | (refine Z1q ?_; intro w hb; replace S := S.grow hb; clear hb) | refine Z06 rfl ?_ | refine Z0u rfl rfl ?_ | refine Z00 rfl (Z0z rfl rfl) ?_ | refine Z00 rfl (Z2o rfl rfl) ?_ | ((refine Z00 rfl (Z07 (S.rdRow (D := (fInt .i64)) (i := 1) rfl) rfl rfl ?_ ?_) ?_; (first | omega | simp <;> omega); (first | omega | simp <;> omega))) | ((refine Z00 rfl (Z0i (S.rdRow (D := (fInt .i64)) (i := 1) rfl) rfl ?_ ?_ rfl) ?_; (first | omega | simp <;> omega); (first | omega | simp <;> omega))) | (refine Z2y ?_; refine Z5l rfl ?_) | (refine Z1e ?_; refine Z1r rfl ?_) | (refine Z2a ?_; refine Z31 rfl rfl ?_) | (refine Z3k ?_; refine Z0c rfl (fun w' hb => Z2x rfl rfl) ?_) | (refine Z13 rfl rfl (fun h => ?_) (fun h => ?_) <;> (fail_if_success first | have := ntT h | have := ntF h) <;> (try simp only [tdyB] at h) <;> (try (exfalso; omega)) <;> (try (exfalso; omega; done))) | (refine Z21 rfl rfl (fun h => ?_) (fun h => ?_) <;> (fail_if_success first | have := ntT h | have := ntF h) <;> (try simp only [tdyB] at h) <;> (try (exfalso; omega)) <;> (try (exfalso; omega; done))) | (refine Z0g rfl (fun h => ?_) (fun h => ?_) <;> (fail_if_success first | have := ntT h | have := ntF h) <;> (try simp only [tdyB] at h) <;> (try (exfalso; omega)) <;> (try (exfalso; omega; done))))
    refine Z3r (fun w' => St w0 w' [.var b8 27 (bkV 0 (.slice none 0 0) 0), Z16 (fInt .i64) 3 (.slice AU u.length cU) u, .var b13 27 (bkV acc (.slice AB Lc.length cB) cl), rowP (.slice AB Lc.length cB) Lc]) (.vals [0, 1, 2, 3, 8, 9, 12, 13, 4, 10, 14, 5, 11, 15, 6, 16, 7, 17] (.one 18 (.vals [19, 20, 21, 22] (.one 23 (.vals [24] .fin))))) (by kernel_rfl) (by decide) (by decide +kernel) (fun w' hb => (S.grow hb).keep [true, true, true, true]) ?_
    intro w' hb; replace S := S.grow hb; clear hb
    refine Z1y ?_
    repeat' (first | refine Z1z ?_ | (refine Z3i ?_; refine Z0p rfl (fun w' hJ => ⟨rfl⟩) ?_) | (refine Z2n ?_; refine Z0p rfl (fun w' hJ => ⟨rfl⟩) ?_) | (refine Zct ?_; (refine Z0p rfl (fun w' hJ => Z12 rfl rfl ?_ ?_) ?_; (first | omega | simp <;> omega); (first | omega | simp <;> omega))) | (refine Zcs ?_; refine Z0p rfl (fun w' hJ => Z3l rfl rfl rfl rfl rfl rfl rfl) ?_) | (refine Z30 ?_; refine Z0p rfl (fun w' hJ => Z1g rfl) ?_) | (refine Z6t ?_; first | (refine Z0p rfl (fun w' hJ => Z07 (hr1.mono hJ.below) rfl rfl ?_ ?_) ?_; (first | omega | simp <;> omega); (first | omega | simp <;> omega)) | (refine Z0p rfl (fun w' hJ => Z07 (hJ.rdRow (D := (fInt .i64)) (i := 1) rfl) rfl rfl ?_ ?_) ?_; (first | omega | simp <;> omega); (first | omega | simp <;> omega))) | (refine Z5b ?_; first | (refine Z0p rfl (fun w' hJ => Z0i (hr1.mono hJ.below) rfl ?_ ?_ rfl) ?_; (first | omega | simp <;> omega); (first | omega | simp <;> omega)) | (refine Z0p rfl (fun w' hJ => Z11 (hr1.mono hJ.below) rfl ?_ ?_ rfl) ?_; (first | omega | simp <;> omega); (first | omega | simp <;> omega)) | (refine Z0p rfl (fun w' hJ => Z0i (hJ.rdRow (D := (fInt .i64)) (i := 1) rfl) rfl ?_ ?_ rfl) ?_; (first | omega | simp <;> omega); (first | omega | simp <;> omega)) | refine Z0p rfl (fun w' hJ => Z0m (i := 2) hJ rfl rfl rfl rfl) ?_))
    refine Z2b ?_
    refine Z3q rfl (Z0w rfl rfl rfl) (Z8r (acc := acc) (cl := cl) (p := Z5t day (nth u i) (nth l i)) (S.rdRow (D := Z0o) (i := 3) rfl) (by omega)) ?_
    rintro r w hb hR
    unfold Z5x at hR
    cases hD : Z3a acc cl Lc (Z5t day (nth u i) (nth l i)) with
    | false =>
     rw [hD, if_neg (by simp)] at hR he
     subst hR
     replace S := S.grow hb; clear hb
     rw [he] at hset
     have e : setI acc cl L l sp day = none := by rw [eS, ← hset]
     refine ⟨S.keep [true, true, true, true], ?_⟩
     refine Z1y ?_; refine Z0p rfl (fun w' hJ => ⟨rfl⟩) ?_; refine Z0p rfl (fun w' hJ => Z0y rfl rfl) ?_; refine Z0p rfl (fun w' hJ => Z0y rfl rfl) ?_; refine Z0p rfl (fun w' hJ => Z0y rfl rfl) ?_; refine Z1z ?_
     refine Z2b ?_; refine Z3c rfl (Z03 (i := 4) S rfl rfl rfl rfl (dqq rfl) (dqq rfl)) ?_; clear S; intro w S; refine ⟨S.keep [true, true, true, true], ?_⟩
     refine Z1y ?_; refine Z0p rfl (fun w' hJ => ⟨rfl⟩) ?_; refine Z1z ?_; refine Z3t ?_; refine Z1x ?_
     repeat' (first | refine Z0a ?_ | refine Z02 ?_ | refine Z08 ?_ | refine Z01 ?_ | refine Z0x ?_ | refine Z27 ?_ | refine Z0r ?_ | refine Z0v rfl ?_ | refine Z06 rfl ?_ | refine Z04 rfl ?_ | refine Z00 rfl (Z33 rfl rfl) ?_ | refine Z00 rfl (Z59 ) ?_ | (first | (refine Z05 rfl (Z03 (i := 0) S rfl rfl rfl rfl (dqq rfl) (dqq rfl)) ?_; clear S; intro w S) | (refine Z05 rfl (Z03 (i := 1) S rfl rfl rfl rfl (dqq rfl) (dqq rfl)) ?_; clear S; intro w S) | (refine Z05 rfl (Z03 (i := 2) S rfl rfl rfl rfl (dqq rfl) (dqq rfl)) ?_; clear S; intro w S) | (refine Z05 rfl (Z03 (i := 3) S rfl rfl rfl rfl (dqq rfl) (dqq rfl)) ?_; clear S; intro w S) | (refine Z05 rfl (Z03 (i := 4) S rfl rfl rfl rfl (dqq rfl) (dqq rfl)) ?_; clear S; intro w S)))
     exact Z4u rfl rfl rfl S (i := 0) rfl rfl ⟨_, rfl, S.below, hno e rfl⟩
    | true =>
     rw [hD, if_pos rfl] at hR he
     obtain ⟨v2, rfl, S'⟩ := hR
     obtain ⟨A2, c2, hz⟩ := (S'.rdRow (D := Z0o) (i := 0) rfl).len; subst hz
     replace S := S.join S'
     clear S' hb
     have hle := Z6j he
     rw [he] at hset
     refine ⟨S.keep [true, true, true, true], ?_⟩
     refine Z1y ?_; refine Z0p rfl (fun w' hJ => ⟨rfl⟩) ?_; refine Z0p rfl (fun w' hJ => Z0y rfl rfl) ?_; refine Z0p rfl (fun w' hJ => Z0y rfl rfl) ?_; refine Z0p rfl (fun w' hJ => Z0y rfl rfl) ?_; refine Z1z ?_
     refine Z2b ?_; refine Z3c rfl (Z03 (i := 4) S rfl rfl rfl rfl (dqq rfl) (dqq rfl)) ?_; clear S; intro w S; refine ⟨S.keep [true, true, true, true], ?_⟩
     refine Z1y ?_; refine Z0p rfl (fun w' hJ => ⟨rfl⟩) ?_; refine Z1z ?_; refine Z3t ?_; refine Z1x ?_
     repeat' (first | refine Z0a ?_ | refine Z02 ?_ | refine Z08 ?_ | refine Z01 ?_ | refine Z0h ?_ | refine Z0k ?_ | refine Z18 rfl ?_ | refine Z06 rfl ?_ | refine Z04 rfl ?_ | ((refine Z00 rfl (Z12 rfl rfl ?_ ?_) ?_; (first | omega | simp <;> omega); (first | omega | simp <;> omega))) | refine Z00 rfl (Z33 rfl rfl) ?_ | refine Z00 rfl (Z0m (i := 4) S rfl rfl rfl rfl) ?_ | (first | (refine Z05 rfl (Z03 (i := 0) S rfl rfl rfl rfl (dqq rfl) (dqq rfl)) ?_; clear S; intro w S) | (refine Z05 rfl (Z03 (i := 1) S rfl rfl rfl rfl (dqq rfl) (dqq rfl)) ?_; clear S; intro w S) | (refine Z05 rfl (Z03 (i := 2) S rfl rfl rfl rfl (dqq rfl) (dqq rfl)) ?_; clear S; intro w S) | (refine Z05 rfl (Z03 (i := 3) S rfl rfl rfl rfl (dqq rfl) (dqq rfl)) ?_; clear S; intro w S) | (refine Z05 rfl (Z03 (i := 4) S rfl rfl rfl rfl (dqq rfl) (dqq rfl)) ?_; clear S; intro w S)))
     refine ⟨⟨_, ?_, i + 1, Lc ++ [Z5t day (nth u i) (nth l i)], A2, c2, ⟨rfl, rfl, rfl, rfl, rfl, rfl, trivial⟩, S.keep [true, true, true, false, false, true], by omega, by omega, by omega, hset, rfl⟩⟩
     omega
   ·have he : Z39 acc cl Lc (nth l i) (nth u i) day = some Lc := by unfold Z39; rw [hk, if_neg hA, if_neg hB]
    repeat' (first | refine Z0a ?_ | refine Z02 ?_ | refine Z08 ?_ | refine Z01 ?_ | refine Z0k ?_ | refine Z0f ?_ | refine Z28 6 (by kernel_rfl) (by decide +kernel) ?_ | (refine Z1q ?_; intro w hb; replace S := S.grow hb; clear hb) | refine Z06 rfl ?_ | refine Z04 rfl ?_ | refine Z00 rfl (Z0z rfl rfl) ?_ | refine Z00 rfl (Z0e rfl) ?_ | refine Z00 rfl (Z0m (i := 2) S rfl rfl rfl rfl) ?_ | ((refine Z0j rfl (Z0w rfl rfl rfl) (Z9a hk (S.rdRow (D := Z0o) (i := 3) rfl) (by omega)) ?_; intro w hb; replace S := S.grow hb; clear hb)) | (refine Z1e ?_; refine Z1r rfl ?_) | (refine Z10 ?_; refine Z0c rfl (fun w' hb => Z1g rfl) ?_) | (refine Z0q ?_; (refine Z0c rfl (fun w' hb => Z07 (hr1.mono (S.grow hb).below) rfl rfl ?_ ?_) ?_; (first | omega | simp <;> omega); (first | omega | simp <;> omega))) | (refine Z1f ?_; first | (refine Z0c rfl (fun w' hb => Z0i (hr1.mono (S.grow hb).below) rfl ?_ ?_ rfl) ?_; (first | omega | simp <;> omega); (first | omega | simp <;> omega)) | refine Z0c rfl (fun w' hb => Z0m (i := 2) (S.grow hb) rfl rfl rfl rfl) ?_) | (refine Z0n rfl (Z1i S) ?_; rintro _ w ⟨b, rfl, -, S'⟩; replace S := S'; clear S') | (first | (refine Z05 rfl (Z03 (i := 0) S rfl rfl rfl rfl (dqq rfl) (dqq rfl)) ?_; clear S; intro w S) | (refine Z05 rfl (Z03 (i := 1) S rfl rfl rfl rfl (dqq rfl) (dqq rfl)) ?_; clear S; intro w S) | (refine Z05 rfl (Z03 (i := 2) S rfl rfl rfl rfl (dqq rfl) (dqq rfl)) ?_; clear S; intro w S) | (refine Z05 rfl (Z03 (i := 3) S rfl rfl rfl rfl (dqq rfl) (dqq rfl)) ?_; clear S; intro w S) | (refine Z05 rfl (Z03 (i := 4) S rfl rfl rfl rfl (dqq rfl) (dqq rfl)) ?_; clear S; intro w S)) | (refine Z0g rfl (fun h => ?_) (fun h => ?_) <;> (fail_if_success first | have := ntT h | have := ntF h) <;> (try simp only [tdyB] at h) <;> (try (exfalso; omega)) <;> (try (exfalso; omega; done))))
    obtain ⟨b16, rfl⟩ : ∃ x, x = b := ⟨_, rfl⟩
    replace S : St w0 w [.var b8 27 (bkV 0 (.slice none 0 0) 0), Z16 (fInt .i64) 3 (.slice AU u.length cU) u, .var b13 27 (bkV acc (.slice AB Lc.length cB) cl), rowP (.slice AB Lc.length cB) Lc, .var b16 27 (bkV acc (.slice AB Lc.length cB) cl)] := S
    refine Z1s (by kernel_rfl) (by kernel_rfl) ?_
    repeat' (first | refine Z0a ?_ | refine Z02 ?_ | refine Z08 ?_ | refine Z01 ?_ | refine Z0h ?_ | refine Z0k ?_ | refine Z18 rfl ?_ | (refine Z1q ?_; intro w hb; replace S := S.grow hb; clear hb) | (refine Z1c ?_; refine Z1p rfl ?_) | refine Z06 rfl ?_ | refine Z04 rfl ?_ | (first | refine Z0u rfl rfl ?_ | refine Z0t rfl rfl ?_) | ((refine Z00 rfl (Z12 rfl rfl ?_ ?_) ?_; (first | omega | simp <;> omega); (first | omega | simp <;> omega))) | refine Z00 rfl (Z33 rfl rfl) ?_ | refine Z00 rfl (Z0z rfl rfl) ?_ | refine Z00 rfl (Z2o rfl rfl) ?_ | ((refine Z00 rfl (Z07 (S.rdRow (D := (fInt .i64)) (i := 1) rfl) rfl rfl ?_ ?_) ?_; (first | omega | simp <;> omega); (first | omega | simp <;> omega))) | (first | (refine Z00 rfl (Z0i (S.rdRow (D := (fInt .i64)) (i := 1) rfl) rfl ?_ ?_ rfl) ?_; (first | omega | simp <;> omega); (first | omega | simp <;> omega)) | refine Z00 rfl (Z0m (i := 4) S rfl rfl rfl rfl) ?_) | (refine Z2y ?_; refine Z5l rfl ?_) | (refine Z1e ?_; refine Z1r rfl ?_) | (refine Z2a ?_; first | refine Z2j rfl rfl ?_ | refine Z31 rfl rfl ?_) | (refine Z86 ?_; refine Z0c rfl (fun w' hb => Z33 rfl rfl) ?_) | (refine Z3k ?_; refine Z0c rfl (fun w' hb => Z2x rfl rfl) ?_) | (refine Z10 ?_; first | refine Z0c rfl (fun w' hb => Z09 rfl) ?_ | refine Z0c rfl (fun w' hb => Z1g rfl) ?_) | (refine Z0q ?_; first | (refine Z0c rfl (fun w' hb => Z07 ((S.grow hb).rdRow (D := (fInt .i64)) (i := 1) rfl) rfl rfl ?_ ?_) ?_; (first | omega | simp <;> omega); (first | omega | simp <;> omega)) | (refine Z0c rfl (fun w' hb => Z07 ((S.grow hb).rdRow (D := Z0o) (i := 3) rfl) rfl rfl ?_ ?_) ?_; (first | omega | simp <;> omega); (first | omega | simp <;> omega))) | (refine Z1f ?_; first | (refine Z0c rfl (fun w' hb => Z0i ((S.grow hb).rdRow (D := (fInt .i64)) (i := 1) rfl) rfl ?_ ?_ rfl) ?_; (first | omega | simp <;> omega); (first | omega | simp <;> omega)) | (refine Z0c rfl (fun w' hb => Z11 ((S.grow hb).rdRow (D := Z0o) (i := 3) rfl) rfl ?_ ?_ rfl) ?_; (first | omega | simp <;> omega); (first | omega | simp <;> omega)) | refine Z0c rfl (fun w' hb => Z0b (i := 2) (S.grow hb) rfl rfl rfl) ?_) | (first | (refine Z05 rfl (Z03 (i := 0) S rfl rfl rfl rfl (dqq rfl) (dqq rfl)) ?_; clear S; intro w S) | (refine Z05 rfl (Z03 (i := 1) S rfl rfl rfl rfl (dqq rfl) (dqq rfl)) ?_; clear S; intro w S) | (refine Z05 rfl (Z03 (i := 2) S rfl rfl rfl rfl (dqq rfl) (dqq rfl)) ?_; clear S; intro w S) | (refine Z05 rfl (Z03 (i := 3) S rfl rfl rfl rfl (dqq rfl) (dqq rfl)) ?_; clear S; intro w S) | (refine Z05 rfl (Z03 (i := 4) S rfl rfl rfl rfl (dqq rfl) (dqq rfl)) ?_; clear S; intro w S)) | (refine Z13 rfl rfl (fun h => ?_) (fun h => ?_) <;> (fail_if_success first | have := ntT h | have := ntF h) <;> (try simp only [tdyB] at h) <;> (try (exfalso; omega)) <;> (try (exfalso; omega; done))) | (refine Z21 rfl rfl (fun h => ?_) (fun h => ?_) <;> (fail_if_success first | have := ntT h | have := ntF h) <;> (try simp only [tdyB] at h) <;> (try (exfalso; omega)) <;> (try (exfalso; omega; done))) | (refine Z0g rfl (fun h => ?_) (fun h => ?_) <;> (fail_if_success first | have := ntT h | have := ntF h) <;> (try simp only [tdyB] at h) <;> (try (exfalso; omega)) <;> (try (exfalso; omega; done))))
    all_goals
     rw [he] at hset
     refine ⟨⟨_, ?_, i + 1, Lc, AB, cB, ⟨rfl, rfl, rfl, rfl, rfl, rfl, trivial⟩, S.keep [true, true, true, true], by omega, by omega, by omega, hset, rfl⟩⟩
     omega
 ·have hil : i.toNat = l.length := by omega
  rw [hil, List.drop_length, setL] at hset
  repeat' (first | refine Z0a ?_ | refine Z02 ?_ | refine Z08 ?_ | refine Z01 ?_ | refine Z0s ?_ | refine Z15 ?_ | refine Z0r ?_ | refine Z1b ?_ | refine Z06 rfl ?_ | refine Z04 rfl ?_ | refine Z00 rfl (Z0z rfl rfl) ?_ | refine Z00 rfl (Z0e rfl) ?_ | refine Z00 rfl (Z0m (i := 2) S rfl rfl rfl rfl) ?_ | (first | (refine Z05 rfl (Z03 (i := 0) S rfl rfl rfl rfl (dqq rfl) (dqq rfl)) ?_; clear S; intro w S) | (refine Z05 rfl (Z03 (i := 1) S rfl rfl rfl rfl (dqq rfl) (dqq rfl)) ?_; clear S; intro w S) | (refine Z05 rfl (Z03 (i := 2) S rfl rfl rfl rfl (dqq rfl) (dqq rfl)) ?_; clear S; intro w S)) | (refine Z0g rfl (fun h => ?_) (fun h => ?_) <;> (fail_if_success first | have := ntT h | have := ntF h) <;> (try simp only [tdyB] at h) <;> (try (exfalso; omega)) <;> (try (exfalso; omega; done))))
  refine Z4u rfl rfl rfl S (i := 0) rfl rfl ⟨_, rfl, S.below, ?_⟩
  unfold Z5e
  rw [eS, ← hset]
  exact ⟨_, rfl, S.keep [false, false, false, true]⟩
end Go.Proofs.YtijnbpnficcpmaaDoor
