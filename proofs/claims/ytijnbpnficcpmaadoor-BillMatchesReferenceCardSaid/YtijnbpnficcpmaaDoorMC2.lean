/- Merged texts: U, V, W, X, Y. -/
import Derived.Test.YtijnbpnficcpmaaDoorMC1
set_option linter.unusedVariables false
set_option linter.unusedSimpArgs false
namespace Go.Proofs.YtijnbpnficcpmaaDoor
open Go Go.Gx Go.RowKit

theorem ord_ins {sp : List GSpot} {out : List Int} {i k : Nat} (hp : out.Perm (tab idf i)) (hw : out.Pairwise (RS (cS sp))) (hk : k ≤ out.length) (h1 : k = 0 ∨ cS sp i (nth out ((k : Int) - 1)) = false) (h2 : ∀ b ∈ out.drop k, cS sp i b = true) :
  (out.take k ++ (i : Int) :: out.drop k).Perm (tab idf (i + 1)) ∧ (out.take k ++ (i : Int) :: out.drop k).Pairwise (RS (cS sp)) := by
 have e : out.take k ++ out.drop k = out := List.take_append_drop ..
 have et : tab idf (i + 1) = tab idf i ++ [(i : Int)] := by unfold tab; rw [List.range_succ, List.map_append]; rfl
 refine ⟨?_, ?_⟩
 ·refine List.perm_middle.trans ?_
  rw [e, et]
  exact (List.perm_append_singleton _ _).symm.trans (hp.append_right _)
 ·refine Z9z (Zbt sp) (by rw [e]; exact hw) (fun y hy => ?_) (fun A' y h => ?_) h2
  ·rw [e] at hy
   have := hp.mem_iff.1 hy
   unfold tab at this
   obtain ⟨j, hj, rfl⟩ := List.mem_map.1 this
   have := List.mem_range.1 hj; simp only [idf]; omega
  ·have hl := congrArg List.length h
   rw [List.length_take, List.length_append, List.length_singleton] at hl
   rcases h1 with h1 | h1
   ·omega
   ·have hg : (out.take k)[k - 1]? = some y := by
     rw [h, List.getElem?_append_right (by omega), show k - 1 - A'.length = 0 by omega]; rfl
    rw [List.getElem?_take_of_lt (by omega)] at hg
    have := Z1u (l := out) (i := (k : Int) - 1) (by omega) (by omega)
    rw [show ((k : Int) - 1).toNat = k - 1 by omega, hg] at this
    have := Option.some.inj this
    rw [this]; exact h1
theorem Zh4 : ∀ x, ∀ u ∈ (fInt .i64).enc x, u.oneCell' = true := by intro x u hu; cases List.mem_singleton.1 hu; rfl
set_option maxHeartbeats 1000000 in
theorem Zka {v : Value} {sp : List GSpot} {w0 : World} (hr : Rd Z1d.ty w0 v sp) (hl : sp.length ≤ 1000000) :
  CallsR Tryd.prog 82 #[v] w0 (fun r w' => Z2u (fInt .i64) 3 w0 w' r (ordI sp)) := by
 have S := St.start w0
 obtain ⟨A, c, rfl⟩ := hr.len
 refine CallsR.mk ?_
 refine Z0l Tryd.func82 rfl (by intro _ h; first | exact nomatch h.1 | (obtain ⟨_, h, _⟩ := h; exact nomatch h)) Tryd.ntmps82 rfl ?_
 repeat' (first | refine Z0a ?_ | refine Z02 ?_ | refine Z08 ?_ | refine Z01 ?_ | refine Z0f ?_ | refine Z04 rfl ?_)
 replace S := S.nilRow (fInt .i64) 3
 refine Z1l (fun m σ w1 => ∃ (i : Nat) (p : Int) (vr : Value) (out : List Int), Has σ [(0, .slice A sp.length c), (3, vr), (4, .int .i64 p)] ∧ St w0 w1 [Z16 (fInt .i64) 3 vr out] ∧ p = i ∧ i ≤ sp.length ∧ out.Perm (tab idf i) ∧ out.Pairwise (RS (cS sp)) ∧ m = sp.length - i) sp.length ⟨0, _, _, [], ⟨rfl, rfl, rfl, trivial⟩, S, rfl, by omega, List.Perm.refl _, List.Pairwise.nil, rfl⟩ ?_
 clear S
 rintro m σ w1 ⟨i, p, vr, out, hs, S, hp, hi1, hpm, hpw, hm⟩
 refine Z1o hs ?_
 have hol : out.length = i := by rw [hpm.length_eq, Z2s]
 obtain ⟨A3, c3, hz⟩ := (S.rdRow (D := fInt .i64) (i := 0) rfl).len; subst hz
 by_cases hi : i < sp.length
 ·repeat' (first | refine Z0a ?_ | refine Z02 ?_ | refine Z08 ?_ | refine Z01 ?_ | refine Z0k ?_ | refine Z0f ?_ | refine Z06 rfl ?_ | refine Z04 rfl ?_ | refine Z00 rfl (Z0z rfl rfl) ?_ | refine Z00 rfl (Z0e rfl) ?_ | (refine Z0g rfl (fun h => ?_) (fun h => ?_) <;> (fail_if_success first | have := ntT h | have := ntF h) <;> (try simp only [tdyB] at h) <;> (try (exfalso; omega))))
  refine Z1l (fun m σ w1 => ∃ (k : Nat) (q : Int), Has σ [(0, .slice A sp.length c), (3, .slice A3 out.length c3), (4, .int .i64 p), (5, .int .i64 q)] ∧ St w0 w1 [Z16 (fInt .i64) 3 (.slice A3 out.length c3) out] ∧ q = k ∧ k ≤ out.length ∧ (∀ b ∈ out.drop k, cS sp i b = true) ∧ m = k) out.length ⟨out.length, _, ⟨rfl, rfl, rfl, rfl, trivial⟩, S, rfl, Nat.le_refl _, (by intro b hb; rw [List.drop_length] at hb; cases hb), rfl⟩ ?_
  clear S hs
  rintro m' σ w1 ⟨k, q, hs, S, hq, hkl, hall, hm'⟩
  refine Z1o hs ?_
  have hins : (k = 0 ∨ cS sp i (nth out ((k : Int) - 1)) = false) → _ := fun h => ord_ins (i := i) hpm hpw hkl h hall
  by_cases hk0 : 0 < k
  ·have hm1 : nth out (q - 1) ∈ out := Z2e (by omega) (by omega)
   have hor : 0 ≤ nth out (q - 1) ∧ nth out (q - 1) < sp.length := by
    have := hpm.mem_iff.1 hm1
    unfold tab at this
    obtain ⟨j, hj, e⟩ := List.mem_map.1 this
    have := List.mem_range.1 hj; rw [← e]; simp only [idf]; omega
   have hcs := @Zgk sp p (nth out (q - 1))
   by_cases hc : cS sp p (nth out (q - 1)) = true
   ·have hc' := hcs.1 hc
    repeat' (first | refine Z0a ?_ | refine Z02 ?_ | refine Z08 ?_ | refine Z01 ?_ | refine Z0h ?_ | refine Z0k ?_ | refine Z0f ?_ | refine Z18 rfl ?_ | refine Z1s (by kernel_rfl) (by kernel_rfl) ?_ | (refine Z1q ?_; intro w hb; replace S := S.grow hb; clear hb) | refine Z06 rfl ?_ | refine Z04 rfl ?_ | ((refine Z00 rfl (Z24 rfl rfl ?_ ?_) ?_; (first | omega | simp <;> omega); (first | omega | simp <;> omega))) | refine Z00 rfl (Z2o rfl rfl) ?_ | (first | (refine Z00 rfl (Z07 (hr.mono S.below) rfl rfl ?_ ?_) ?_; (first | omega | simp <;> omega); (first | omega | simp <;> omega)) | (refine Z00 rfl (Z07 (S.rdRow (D := (fInt .i64)) (i := 0) rfl) rfl rfl ?_ ?_) ?_; (first | omega | simp <;> omega); (first | omega | simp <;> omega))) | (first | (refine Z00 rfl (Z19 (hr.mono S.below) rfl ?_ ?_) ?_; (first | omega | simp <;> omega); (first | omega | simp <;> omega)) | (refine Z00 rfl (Z0i (S.rdRow (D := (fInt .i64)) (i := 0) rfl) rfl ?_ ?_ rfl) ?_; (first | omega | simp <;> omega); (first | omega | simp <;> omega))) | (refine Z2y ?_; refine Z5l rfl ?_) | (refine Z1e ?_; refine Z1r rfl ?_) | (refine Z2a ?_; first | refine Z2j rfl rfl ?_ | refine Z31 rfl rfl ?_) | (refine Z4h ?_; refine Z0c rfl (fun w' hb => Z2k rfl rfl) ?_) | (refine Z2l ?_; refine Z0c rfl (fun w' hb => Z0z rfl rfl) ?_) | (refine Z76 ?_; refine Z0c rfl (fun w' hb => Z4m rfl rfl) ?_) | (refine Z10 ?_; first | refine Z0c rfl (fun w' hb => Z09 rfl) ?_ | refine Z0c rfl (fun w' hb => Z1g rfl) ?_) | (refine Z0q ?_; (refine Z0c rfl (fun w' hb => Z07 (hr.mono (S.grow hb).below) rfl rfl ?_ ?_) ?_; (first | omega | simp <;> omega); (first | omega | simp <;> omega))) | (refine Z1f ?_; first | (refine Z0c rfl (fun w' hb => Z0i (hr.mono (S.grow hb).below) rfl ?_ ?_ rfl) ?_; (first | omega | simp <;> omega); (first | omega | simp <;> omega)) | (refine Z0c rfl (fun w' hb => Z11 (hr.mono (S.grow hb).below) rfl ?_ ?_ rfl) ?_; (first | omega | simp <;> omega); (first | omega | simp <;> omega)) | refine Z0c rfl (fun w' hb => Z0b (i := 1) (S.grow hb) rfl rfl rfl) ?_) | (refine Z0n rfl (Z1i S) ?_; rintro _ w ⟨b, rfl, -, S'⟩; replace S := S'; clear S') | (first | (refine Z05 rfl (Z03 (i := 0) S rfl rfl rfl rfl (dqq rfl) (dqq rfl)) ?_; clear S; intro w S) | (refine Z05 rfl (Z03 (i := 1) S rfl rfl rfl rfl (dqq rfl) (dqq rfl)) ?_; clear S; intro w S)) | (refine Z21 rfl rfl (fun h => ?_) (fun h => ?_) <;> (fail_if_success first | have := ntT h | have := ntF h) <;> (try simp only [tdyB] at h) <;> (try (exfalso; omega))) | (refine Z0g rfl (fun h => ?_) (fun h => ?_) <;> (fail_if_success first | have := ntT h | have := ntF h) <;> (try simp only [tdyB] at h) <;> (try (exfalso; omega))))
    all_goals
     refine ⟨⟨_, ?_, k - 1, _, ⟨rfl, rfl, rfl, rfl, trivial⟩, S.keep [true], by omega, by omega, fun b hb => ?_, rfl⟩⟩
     ·omega
     ·have hd : out.drop (k - 1) = nth out (q - 1) :: out.drop k := by
       have hg := Z1u (l := out) (i := q - 1) (by omega) (by omega)
       rw [show (q - 1).toNat = k - 1 by omega] at hg
       obtain ⟨hlt, e⟩ := List.getElem?_eq_some_iff.1 hg
       rw [List.drop_eq_getElem_cons hlt, e, show k - 1 + 1 = k by omega]
      rw [hd] at hb
      rcases List.mem_cons.1 hb with rfl | hb
      ·rw [← hp]; exact hc
      ·exact hall b hb
   ·have hc' : ¬ ((nth sp p).At < (nth sp (nth out (q - 1))).At ∨ ((nth sp p).At = (nth sp (nth out (q - 1))).At ∧ (nth sp p).Contract < (nth sp (nth out (q - 1))).Contract)) := fun h => hc (hcs.2 h)
    have hc2 : (nth sp (nth out (q - 1))).At < (nth sp p).At ∨ ((nth sp (nth out (q - 1))).At = (nth sp p).At ∧ (nth sp (nth out (q - 1))).Contract ≤ (nth sp p).Contract) := by omega
    obtain ⟨hP, hW⟩ := hins (.inr (by rw [← hp, ← hq]; simpa using hc))
    repeat' (first | refine Z0a ?_ | refine Z02 ?_ | refine Z08 ?_ | refine Z01 ?_ | refine Z0s ?_ | refine Z15 ?_ | refine inB_past rfl ?_ | refine Z0k ?_ | refine Z1b ?_ | refine Z0f ?_ | refine Z0v rfl ?_ | refine Z1s (by kernel_rfl) (by kernel_rfl) ?_ | (refine Z1q ?_; intro w hb; replace S := S.grow hb; clear hb) | refine Z06 rfl ?_ | ((refine Z00 rfl (Z24 rfl rfl ?_ ?_) ?_; (first | omega | simp <;> omega); (first | omega | simp <;> omega))) | refine Z00 rfl (Z2o rfl rfl) ?_ | (first | (refine Z00 rfl (Z07 (hr.mono S.below) rfl rfl ?_ ?_) ?_; (first | omega | simp <;> omega); (first | omega | simp <;> omega)) | (refine Z00 rfl (Z07 (S.rdRow (D := (fInt .i64)) (i := 0) rfl) rfl rfl ?_ ?_) ?_; (first | omega | simp <;> omega); (first | omega | simp <;> omega))) | (first | (refine Z00 rfl (Z19 (hr.mono S.below) rfl ?_ ?_) ?_; (first | omega | simp <;> omega); (first | omega | simp <;> omega)) | (refine Z00 rfl (Z0i (S.rdRow (D := (fInt .i64)) (i := 0) rfl) rfl ?_ ?_ rfl) ?_; (first | omega | simp <;> omega); (first | omega | simp <;> omega))) | (refine Z2y ?_; refine Z5l rfl ?_) | (refine Z1e ?_; refine Z1r rfl ?_) | (refine Z2a ?_; first | refine Z2j rfl rfl ?_ | refine Z31 rfl rfl ?_) | (refine Z4h ?_; refine Z0c rfl (fun w' hb => Z2k rfl rfl) ?_) | (refine Z2l ?_; refine Z0c rfl (fun w' hb => Z0z rfl rfl) ?_) | (refine Z76 ?_; refine Z0c rfl (fun w' hb => Z4m rfl rfl) ?_) | (refine Z10 ?_; first | refine Z0c rfl (fun w' hb => Z09 rfl) ?_ | refine Z0c rfl (fun w' hb => Z1g rfl) ?_) | (refine Z0q ?_; (refine Z0c rfl (fun w' hb => Z07 (hr.mono (S.grow hb).below) rfl rfl ?_ ?_) ?_; (first | omega | simp <;> omega); (first | omega | simp <;> omega))) | (refine Z1f ?_; first | (refine Z0c rfl (fun w' hb => Z0i (hr.mono (S.grow hb).below) rfl ?_ ?_ rfl) ?_; (first | omega | simp <;> omega); (first | omega | simp <;> omega)) | (refine Z0c rfl (fun w' hb => Z11 (hr.mono (S.grow hb).below) rfl ?_ ?_ rfl) ?_; (first | omega | simp <;> omega); (first | omega | simp <;> omega)) | refine Z0c rfl (fun w' hb => Z0b (i := 1) (S.grow hb) rfl rfl rfl) ?_) | (refine Z0n rfl (Z1i S) ?_; rintro _ w ⟨b, rfl, -, S'⟩; replace S := S'; clear S') | (first | (refine Z05 rfl (Z03 (i := 0) S rfl rfl rfl rfl (dqq rfl) (dqq rfl)) ?_; clear S; intro w S) | (refine Z05 rfl (Z03 (i := 1) S rfl rfl rfl rfl (dqq rfl) (dqq rfl)) ?_; clear S; intro w S)) | (refine Z21 rfl rfl (fun h => ?_) (fun h => ?_) <;> (fail_if_success first | have := ntT h | have := ntF h) <;> (try simp only [tdyB] at h) <;> (try (exfalso; omega))) | (refine Z0g rfl (fun h => ?_) (fun h => ?_) <;> (fail_if_success first | have := ntT h | have := ntF h) <;> (try simp only [tdyB] at h) <;> (try (exfalso; omega))))
    all_goals
     replace S : St w0 w [Z16 (fInt .i64) 3 (.slice A3 out.length c3) out] := S.keep [true]
     refine Z0n rfl (Z9e (D := fInt .i64) S) ?_
     rintro vn w ⟨-, S'⟩; replace S := S'; clear S'
     repeat' ((refine Z06 rfl ?_))
     refine Z00 rfl (Z61 (S.rdRow (D := fInt .i64) (i := 0) rfl) rfl rfl (by omega) (by omega)) ?_
     refine Z0n rfl (Z3j (i := 1) (l := []) (D := fInt .i64) S rfl ((S.rdRow (D := fInt .i64) (i := 0) rfl).cut (lo := 0) (hi := q.toNat) (by omega) (by omega)) rfl rfl rfl (by decide) Zh4 (by simp; omega) (by simp; omega)) ?_
     rintro vn1 w ⟨-, S'⟩; replace S := S'; clear S'
     repeat' (first | refine Z0a ?_ | refine Z02 ?_ | refine Z08 ?_ | refine Z01 ?_ | refine Z06 rfl ?_ | refine Z04 rfl ?_)
     refine Z0n rfl (Z2z (D := fInt .i64) [p] (Value.int .i64) S rfl rfl (fun _ => rfl) rfl (by decide) (by decide)) ?_
     rintro _ w ⟨bl, rfl, -, hcl, S'⟩; replace S := S'; clear S'
     refine Z0n rfl (Z2t (D := fInt .i64) (i := 1) (b := bl) (x := p) S rfl rfl rfl (Z53 hcl) rfl (by decide) (dqq rfl) (by simp; omega) (by simp; omega)) ?_
     rintro vn2 w ⟨-, S'⟩; replace S := S'; clear S' hcl
     repeat' (first | refine Z02 ?_ | refine Z08 ?_ | refine Z01 ?_ | refine Z06 rfl ?_ | refine Z04 rfl ?_)
     refine Z00 rfl (Zds (S.rdRow (D := fInt .i64) (i := 0) rfl) rfl rfl (by omega) (by omega)) ?_
     refine Z0n rfl (Z3j (i := 1) (D := fInt .i64) S rfl ((S.rdRow (D := fInt .i64) (i := 0) rfl).cut (lo := q.toNat) (hi := out.length) (by omega) (by omega)) rfl rfl rfl (by decide) Zh4 (by simp; omega) (by simp; omega)) ?_
     rintro vn3 w ⟨-, S'⟩; replace S := S'; clear S'
     repeat' (first | refine Z02 ?_ | refine Z08 ?_ | refine Z01 ?_ | refine Z0h ?_ | refine Z06 rfl ?_ | refine Z04 rfl ?_ | ((refine Z00 rfl (Z12 rfl rfl ?_ ?_) ?_; (first | omega | simp <;> omega); (first | omega | simp <;> omega))))
     have eX : [] ++ (out.take q.toNat).drop 0 ++ [p] ++ (out.take out.length).drop q.toNat = out.take k ++ (i : Int) :: out.drop k := by
      rw [hp, hq, Int.toNat_natCast, List.take_length]; simp
     replace S : St w0 w [Z16 (fInt .i64) 3 vn3 (out.take k ++ (i : Int) :: out.drop k)] := by rw [← eX]; exact S.keep [false, true]
     refine ⟨⟨_, ?_, i + 1, _, vn3, _, ⟨rfl, rfl, rfl, trivial⟩, S, by omega, by omega, hP, hW, rfl⟩⟩
     omega
  ·have hq0 : q = 0 := by omega
   obtain ⟨hP, hW⟩ := hins (.inl (by omega))
   repeat' (first | refine Z0a ?_ | refine Z02 ?_ | refine Z08 ?_ | refine Z01 ?_ | refine Z0s ?_ | refine Z15 ?_ | refine Z1b ?_ | refine Z06 rfl ?_ | refine Z00 rfl (Z2o rfl rfl) ?_ | (refine Z0g rfl (fun h => ?_) (fun h => ?_) <;> (fail_if_success first | have := ntT h | have := ntF h) <;> (try simp only [tdyB] at h) <;> (try (exfalso; omega))))
   all_goals
    replace S : St w0 w1 [Z16 (fInt .i64) 3 (.slice A3 out.length c3) out] := S.keep [true]
    refine Z0n rfl (Z9e (D := fInt .i64) S) ?_
    rintro vn w ⟨-, S'⟩; replace S := S'; clear S'
    repeat' ((refine Z06 rfl ?_))
    refine Z00 rfl (Z61 (S.rdRow (D := fInt .i64) (i := 0) rfl) rfl rfl (by omega) (by omega)) ?_
    refine Z0n rfl (Z3j (i := 1) (l := []) (D := fInt .i64) S rfl ((S.rdRow (D := fInt .i64) (i := 0) rfl).cut (lo := 0) (hi := q.toNat) (by omega) (by omega)) rfl rfl rfl (by decide) Zh4 (by simp; omega) (by simp; omega)) ?_
    rintro vn1 w ⟨-, S'⟩; replace S := S'; clear S'
    repeat' (first | refine Z0a ?_ | refine Z02 ?_ | refine Z08 ?_ | refine Z01 ?_ | refine Z06 rfl ?_ | refine Z04 rfl ?_)
    refine Z0n rfl (Z2z (D := fInt .i64) [p] (Value.int .i64) S rfl rfl (fun _ => rfl) rfl (by decide) (by decide)) ?_
    rintro _ w ⟨bl, rfl, -, hcl, S'⟩; replace S := S'; clear S'
    refine Z0n rfl (Z2t (D := fInt .i64) (i := 1) (b := bl) (x := p) S rfl rfl rfl (Z53 hcl) rfl (by decide) (dqq rfl) (by simp; omega) (by simp; omega)) ?_
    rintro vn2 w ⟨-, S'⟩; replace S := S'; clear S' hcl
    repeat' (first | refine Z02 ?_ | refine Z08 ?_ | refine Z01 ?_ | refine Z06 rfl ?_ | refine Z04 rfl ?_)
    refine Z00 rfl (Zds (S.rdRow (D := fInt .i64) (i := 0) rfl) rfl rfl (by omega) (by omega)) ?_
    refine Z0n rfl (Z3j (i := 1) (D := fInt .i64) S rfl ((S.rdRow (D := fInt .i64) (i := 0) rfl).cut (lo := q.toNat) (hi := out.length) (by omega) (by omega)) rfl rfl rfl (by decide) Zh4 (by simp; omega) (by simp; omega)) ?_
    rintro vn3 w ⟨-, S'⟩; replace S := S'; clear S'
    repeat' (first | refine Z02 ?_ | refine Z08 ?_ | refine Z01 ?_ | refine Z0h ?_ | refine Z06 rfl ?_ | refine Z04 rfl ?_ | ((refine Z00 rfl (Z12 rfl rfl ?_ ?_) ?_; (first | omega | simp <;> omega); (first | omega | simp <;> omega))))
    have eX : [] ++ (out.take q.toNat).drop 0 ++ [p] ++ (out.take out.length).drop q.toNat = out.take k ++ (i : Int) :: out.drop k := by
     rw [hp, hq, Int.toNat_natCast, List.take_length]; simp
    replace S : St w0 w [Z16 (fInt .i64) 3 vn3 (out.take k ++ (i : Int) :: out.drop k)] := by rw [← eX]; exact S.keep [false, true]
    refine ⟨⟨_, ?_, i + 1, _, vn3, _, ⟨rfl, rfl, rfl, trivial⟩, S, by omega, by omega, hP, hW, rfl⟩⟩
    omega
 ·repeat' (first | refine Z0a ?_ | refine Z02 ?_ | refine Z08 ?_ | refine Z01 ?_ | refine Z0s ?_ | refine Z15 ?_ | refine Z0r ?_ | refine Z1b ?_ | refine Z06 rfl ?_ | refine Z04 rfl ?_ | refine Z00 rfl (Z0z rfl rfl) ?_ | refine Z00 rfl (Z0e rfl) ?_ | (refine Z0g rfl (fun h => ?_) (fun h => ?_) <;> (fail_if_success first | have := ntT h | have := ntF h) <;> (try simp only [tdyB] at h) <;> (try (exfalso; omega))))
  have e : i = sp.length := by omega
  subst e
  have hO : Ord sp out := ⟨hpm, hpw⟩
  rw [← hO.eq]
  exact end1 rfl rfl ⟨_, rfl, S.below, S.row (i := 0) rfl⟩

theorem Zkb {l : List GContract} {cnt : List GSpot} {x : GSpot} (h : rsn l cnt x = 0) : Z49 l x.Contract ≠ none := by
 intro hn; unfold rsn at h; rw [hn] at h; simp at h
theorem Zfq {l : List GContract} {sp : List GSpot} (turn : List Int) : ∀ s ∈ spAt sp (Z7y l sp turn), Z49 l s.Contract ≠ none := by
 have key : ∀ (t : List Int) (o : List Int), (∀ s ∈ spAt sp o, Z49 l s.Contract ≠ none) → ∀ s ∈ spAt sp (t.foldl (Zb3 l sp) o), Z49 l s.Contract ≠ none := by
  intro t
  induction t with
  | nil => intro o h; exact h
  | cons a t ih =>
   intro o h
   refine ih _ fun s hs => ?_
   unfold Zb3 at hs
   split at hs
   ·rename_i h0
    unfold spAt at hs
    rw [List.map_append] at hs
    rcases List.mem_append.1 hs with hs | hs
    ·exact h s hs
    ·rw [List.mem_singleton.1 hs]; exact Zkb h0
   ·exact h s hs
 exact key turn [] (fun s hs => by cases hs)
theorem Z54 {v : Value} {l : List GContract} {b : Bool} {w0 : World} (h : Z2v l = b) (hr : Rd Z14.ty w0 v l) (hl : l.length ≤ 1000000000) : CallsV Tryd.prog 49 #[v] w0 (.bool b) := by rw [← h]; exact Zfc hr hl
theorem Z3v {v : Value} {l : List GSpot} {b : Bool} {w0 : World} (h : Z3s l = b) (hr : Rd Z1d.ty w0 v l) (hl : l.length ≤ 1000000000) : CallsV Tryd.prog 50 #[v] w0 (.bool b) := by rw [← h]; exact Z9m hr hl
theorem Zca {v1 v2 v3 : Value} {l : List GContract} {sp : List GSpot} {out : List Int} {x : GSpot} {z : Int} {w0 : World} (hz : rsn l (spAt sp out) x = z) (hr1 : Rd Z14.ty w0 v1 l) (hr2 : Rd Z1d.ty w0 v2 sp) (hr3 : Rd (fInt .i64).ty w0 v3 out) (hl : l.length ≤ 1000000000) (hl2 : sp.length ≤ 1000000000) (hl3 : out.length ≤ 1000000000)
  (hx : 0 ≤ x.At ∧ x.At ≤ 9999999) (hsp : ∀ s ∈ sp, 0 ≤ s.At ∧ s.At ≤ 9999999) (ho : ∀ x ∈ out, 0 ≤ x ∧ x < sp.length) (hf : ∀ s ∈ spAt sp out, Z49 l s.Contract ≠ none) :
  CallsV Tryd.prog 83 #[v1, v2, v3, .agg x.enc.toArray] w0 (.int .i64 z) := by rw [← hz]; exact Zei hr1 hr2 hr3 hl hl2 hl3 hx hsp ho hf
set_option maxHeartbeats 1000000 in
theorem Zej {l : List GContract} {sp : List GSpot} {v1 v2 : Value} {w0 : World} (hr1 : Rd Z14.ty w0 v1 l) (hr2 : Rd Z1d.ty w0 v2 sp) (hl : l.length ≤ 1000000000) (hl2 : sp.length ≤ 1000000000) :
  CallsR Tryd.prog 52 #[v1, v2] w0 (RowE w0 (Z3b l sp)) := by
 have S := St.start w0
 obtain ⟨A, c1, rfl⟩ := hr1.len
 obtain ⟨A2, c2, rfl⟩ := hr2.len
 refine CallsR.mk ?_
 refine Z0l Tryd.func52 rfl (by intro _ h; first | exact nomatch h.1 | (obtain ⟨_, h, _⟩ := h; exact nomatch h)) Tryd.ntmps52 rfl ?_
 by_cases h1 : Z2v l = true
 ·by_cases h2 : Z3s sp = true
  ·have h : okI l sp = true := by unfold okI; rw [h1, h2]; rfl
   have ec : Z3b l sp = (cntI l sp, 0) := by unfold Z3b; rw [h]; rfl
   rw [ec]
   have hp60 := Z4x h2
   have hl12 := Z5j h1
   have hsp : ∀ s ∈ sp, 0 ≤ s.At ∧ s.At ≤ 9999999 := fun s hs => (Z8k h2 hs).2.2
   repeat' (first | refine Z0a ?_ | refine Z02 ?_ | refine Z08 ?_ | refine Z01 ?_ | refine Z0k ?_ | refine Z18 rfl ?_ | refine Z06 rfl ?_ | refine Z04 rfl ?_ | refine Z0t rfl rfl ?_ | refine Z00 rfl (Z1w rfl) ?_ | (first | (refine Z0j rfl (Z1h rfl rfl) (Z54 h1 (hr1.mono S.below) hl) ?_; intro w hb; replace S := S.grow hb; clear hb) | (refine Z0j rfl (Z1h rfl rfl) (Z3v h2 (hr2.mono S.below) hl2) ?_; intro w hb; replace S := S.grow hb; clear hb)))
   refine Z25 rfl (Z1h rfl rfl) (Zka (hr2.mono S.below) (by omega)) ?_
   rintro vt w hb hrow; replace S := S.new hb hrow; clear hb hrow
   obtain ⟨turn, ht⟩ : ∃ turn, ordI sp = turn := ⟨_, rfl⟩
   have hO : Ord sp turn := by rw [← ht]; exact Zd2 sp
   have hOl := hO.len
   rw [ht] at S
   replace S : St w0 w [Z16 (fInt .i64) 3 vt turn] := S
   obtain ⟨A3, c3, hz⟩ := (S.rdRow (D := fInt .i64) (i := 0) rfl).len; subst hz
   repeat' (first | refine Z0a ?_ | refine Z02 ?_ | refine Z08 ?_ | refine Z01 ?_ | refine Z0f ?_ | refine Z04 rfl ?_)
   replace S := S.nilRow (fInt .i64) 3
   refine Z1l (fun m σ w1 => ∃ (i : Int) (vo : Value) (out : List Int), Has σ [(0, .slice A l.length c1), (1, .slice A2 sp.length c2), (6, vo), (7, .slice A3 turn.length c3), (8, .int .i64 i)] ∧ St w0 w1 [Z16 (fInt .i64) 3 (.slice A3 turn.length c3) turn, Z16 (fInt .i64) 3 vo out] ∧ 0 ≤ i ∧ i ≤ turn.length ∧ out = Z7y l sp (turn.take i.toNat) ∧ m = turn.length - i.toNat) turn.length ⟨0, _, [], ⟨rfl, rfl, rfl, rfl, rfl, trivial⟩, S, by omega, by omega, rfl, by omega⟩ ?_
   clear S
   rintro m σ w1 ⟨i, vo, out, hs, S, hi0, hi1, hout, hm⟩
   refine Z1o hs ?_
   have hol : out.length ≤ 60 := by
    have := Zb4 (l := l) (sp := sp) (turn.take i.toNat)
    rw [List.length_take] at this; rw [hout]; omega
   have hom : ∀ x ∈ out, 0 ≤ x ∧ x < sp.length := by
    rw [hout]; exact fun x hx => hO.mem (List.mem_of_mem_take (Zb5 hx))
   have hf : ∀ s ∈ spAt sp out, Z49 l s.Contract ≠ none := by rw [hout]; exact Zfq _
   by_cases hi : i < turn.length
   ·have hjr := hO.mem (Z2e hi0 hi)
    have hxr := hsp _ (Z2e hjr.1 hjr.2)
    have hstep : Z7y l sp (turn.take (i + 1).toNat) = if rsn l (spAt sp out) (nth sp (nth turn i)) = 0 then out ++ [nth turn i] else out := by
     rw [Zgo hi0 hi, ← hout]; rfl
    obtain ⟨A4, c4, hz⟩ := (S.rdRow (D := fInt .i64) (i := 1) rfl).len; subst hz
    obtain ⟨z, hzz⟩ : ∃ z, rsn l (spAt sp out) (nth sp (nth turn i)) = z := ⟨_, rfl⟩
    rw [hzz] at hstep
    by_cases h0 : z = 0
    ·rw [if_pos h0] at hstep
     subst h0
     repeat' (first | refine Z0a ?_ | refine Z02 ?_ | refine Z08 ?_ | refine Z01 ?_ | refine Z0k ?_ | refine Z0f ?_ | refine Z0v rfl ?_ | refine Z06 rfl ?_ | refine Z00 rfl (Z2k rfl rfl) ?_ | refine Z00 rfl (Z0z rfl rfl) ?_ | refine Z00 rfl (Z0e rfl) ?_ | (first | (refine Z00 rfl (Z07 (hr2.mono S.below) rfl rfl ?_ ?_) ?_; (first | omega | simp <;> omega); (first | omega | simp <;> omega)) | (refine Z00 rfl (Z07 (S.rdRow (D := (fInt .i64)) (i := 0) rfl) rfl rfl ?_ ?_) ?_; (first | omega | simp <;> omega); (first | omega | simp <;> omega))) | (first | (refine Z00 rfl (Z19 (hr2.mono S.below) rfl ?_ ?_) ?_; (first | omega | simp <;> omega); (first | omega | simp <;> omega)) | (refine Z00 rfl (Z0i (S.rdRow (D := (fInt .i64)) (i := 0) rfl) rfl ?_ ?_ rfl) ?_; (first | omega | simp <;> omega); (first | omega | simp <;> omega))) | ((refine Z0j rfl (Z3g rfl rfl rfl rfl rfl) (Zca hzz (hr1.mono S.below) (hr2.mono S.below) (S.rdRow (D := fInt .i64) (i := 1) rfl) hl hl2 (by omega) hxr hsp hom hf) ?_; intro w hb; replace S := S.grow hb; clear hb)) | (refine Z0g rfl (fun h => ?_) (fun h => ?_) <;> (fail_if_success first | have := ntT h | have := ntF h) <;> (try simp only [tdyB] at h) <;> (try (exfalso; omega))))
     refine Z0n rfl (Z2z (D := fInt .i64) [nth turn i] (Value.int .i64) S rfl rfl (fun _ => rfl) rfl (by decide) (by decide)) ?_
     rintro _ w ⟨bl, rfl, -, hcl, S'⟩; replace S := S'; clear S'
     refine Z0n rfl (Z2t (D := fInt .i64) (i := 1) (b := bl) (x := nth turn i) S rfl rfl rfl (Z53 hcl) rfl (by decide) (dqq rfl) (by omega) (by omega)) ?_
     rintro vo' w ⟨-, S'⟩; replace S := S'; clear S' hcl
     repeat' (first | refine Z02 ?_ | refine Z08 ?_ | refine Z01 ?_ | refine Z0h ?_ | refine Z06 rfl ?_ | refine Z04 rfl ?_ | ((refine Z00 rfl (Z12 rfl rfl ?_ ?_) ?_; (first | omega | simp <;> omega); (first | omega | simp <;> omega))))
     refine ⟨⟨_, ?_, i + 1, vo', _, ⟨rfl, rfl, rfl, rfl, rfl, trivial⟩, S.keep [true, true], by omega, by omega, hstep.symm, rfl⟩⟩
     omega
    ·rw [if_neg h0] at hstep
     repeat' (first | refine Z0a ?_ | refine Z02 ?_ | refine Z08 ?_ | refine Z01 ?_ | refine Z0h ?_ | refine Z0k ?_ | refine Z0f ?_ | refine Z06 rfl ?_ | refine Z04 rfl ?_ | ((refine Z00 rfl (Z12 rfl rfl ?_ ?_) ?_; (first | omega | simp <;> omega); (first | omega | simp <;> omega))) | refine Z00 rfl (Z2k rfl rfl) ?_ | refine Z00 rfl (Z0z rfl rfl) ?_ | refine Z00 rfl (Z0e rfl) ?_ | (first | (refine Z00 rfl (Z07 (hr2.mono S.below) rfl rfl ?_ ?_) ?_; (first | omega | simp <;> omega); (first | omega | simp <;> omega)) | (refine Z00 rfl (Z07 (S.rdRow (D := (fInt .i64)) (i := 0) rfl) rfl rfl ?_ ?_) ?_; (first | omega | simp <;> omega); (first | omega | simp <;> omega))) | (first | (refine Z00 rfl (Z19 (hr2.mono S.below) rfl ?_ ?_) ?_; (first | omega | simp <;> omega); (first | omega | simp <;> omega)) | (refine Z00 rfl (Z0i (S.rdRow (D := (fInt .i64)) (i := 0) rfl) rfl ?_ ?_ rfl) ?_; (first | omega | simp <;> omega); (first | omega | simp <;> omega))) | ((refine Z0j rfl (Z3g rfl rfl rfl rfl rfl) (Zca hzz (hr1.mono S.below) (hr2.mono S.below) (S.rdRow (D := fInt .i64) (i := 1) rfl) hl hl2 (by omega) hxr hsp hom hf) ?_; intro w hb; replace S := S.grow hb; clear hb)) | (refine Z0g rfl (fun h => ?_) (fun h => ?_) <;> (fail_if_success first | have := ntT h | have := ntF h) <;> (try simp only [tdyB] at h) <;> (try (exfalso; omega))))
     refine ⟨⟨_, ?_, i + 1, _, _, ⟨rfl, rfl, rfl, rfl, rfl, trivial⟩, S.keep [true, true], by omega, by omega, hstep.symm, rfl⟩⟩
     omega
   ·have hit : i.toNat = turn.length := by omega
    rw [hit, List.take_length, ← ht] at hout
    subst hout
    repeat' (first | refine Z0a ?_ | refine Z02 ?_ | refine Z08 ?_ | refine Z01 ?_ | refine Z0s ?_ | refine Z15 ?_ | refine Z0r ?_ | refine Z1b ?_ | refine Z06 rfl ?_ | refine Z04 rfl ?_ | refine Z00 rfl (Z0z rfl rfl) ?_ | refine Z00 rfl (Z0e rfl) ?_ | (refine Z0g rfl (fun h => ?_) (fun h => ?_) <;> (fail_if_success first | have := ntT h | have := ntF h) <;> (try simp only [tdyB] at h) <;> (try (exfalso; omega))))
    exact end2 rfl rfl rfl ⟨_, rfl, S.below, vo, rfl, S.row (i := 1) rfl⟩
  ·have h2' : Z3s sp = false := by simpa using h2
   have ec : Z3b l sp = ([], 120) := by unfold Z3b okI; rw [h1, h2']; rfl
   rw [ec]
   repeat' (first | refine Z0a ?_ | refine Z02 ?_ | refine Z08 ?_ | refine Z01 ?_ | refine Z0x ?_ | refine Z0r ?_ | refine Z0v rfl ?_ | refine Z06 rfl ?_ | refine Z04 rfl ?_ | refine Z0t rfl rfl ?_ | refine Z00 rfl (Z1w rfl) ?_ | (first | (refine Z0j rfl (Z1h rfl rfl) (Z54 h1 (hr1.mono S.below) hl) ?_; intro w hb; replace S := S.grow hb; clear hb) | (refine Z0j rfl (Z1h rfl rfl) (Z3v h2' (hr2.mono S.below) hl2) ?_; intro w hb; replace S := S.grow hb; clear hb)))
   exact end2 rfl rfl rfl ⟨_, rfl, S.below, _, rfl, Z2u.nil _ _ _ _⟩
 ·have h1' : Z2v l = false := by simpa using h1
  have ec : Z3b l sp = ([], 120) := by unfold Z3b okI; rw [h1']; rfl
  rw [ec]
  repeat' (first | refine Z0a ?_ | refine Z02 ?_ | refine Z08 ?_ | refine Z01 ?_ | refine Z0x ?_ | refine Z0r ?_ | refine Z0v rfl ?_ | (refine Z1c ?_; refine Z1p rfl ?_) | refine Z06 rfl ?_ | refine Z04 rfl ?_ | refine Z0u rfl rfl ?_ | refine Z00 rfl (Z1w rfl) ?_ | ((refine Z0j rfl (Z1h rfl rfl) (Z54 h1' (hr1.mono S.below) hl) ?_; intro w hb; replace S := S.grow hb; clear hb)))
  exact end2 rfl rfl rfl ⟨_, rfl, S.below, _, rfl, Z2u.nil _ _ _ _⟩
theorem Zkc {l : List GContract} {sp : List GSpot} (h : okI l sp = true) : ∀ s ∈ sp, 0 ≤ s.At ∧ s.At ≤ 9999999 := fun s hs => (Z8k (Zec h).2 hs).2.2

def Z26 (c n : Int) : Int := (if c < 0 then -(c + 1) else c) % n
theorem Z1m {c n : Int} (hn : 0 < n) : 0 ≤ Z26 c n ∧ Z26 c n < n := ⟨Int.emod_nonneg _ (by omega), Int.emod_lt_of_pos _ hn⟩
theorem Z23 {c n : Int} {w : World} (hc0 : -9223372036854775808 ≤ c) (hc : c ≤ 9223372036854775807) (hn : 0 < n) : CallsV Tryd.prog 39 #[.int .i64 c, .int .i64 n] w (.int .i64 (Z26 c n)) := by
 have S := St.start w
 refine CallsV.mk ?_
 refine Z0l Tryd.func39 rfl (by intro _ h; first | exact nomatch h.1 | (obtain ⟨_, h, _⟩ := h; exact nomatch h)) Tryd.ntmps39 rfl ?_
 repeat' (first | refine Z0a ?_ | refine Z02 ?_ | refine Z08 ?_ | refine Z01 ?_ | refine Z0r ?_ | refine Z0k ?_ | refine Z06 rfl ?_ | refine Z04 rfl ?_ | ((refine Z00 rfl (Z12 rfl rfl ?_ ?_) ?_; (first | omega | simp <;> omega); (first | omega | simp <;> omega))) | ((refine Z00 rfl (Z7i rfl rfl ?_ ?_) ?_; (first | omega | simp <;> omega); (first | omega | simp <;> omega))) | refine Z00 rfl (Z0z rfl rfl) ?_ | ((refine Z00 rfl (Zg2 rfl ?_ ?_) ?_; (first | omega | simp <;> omega); (first | omega | simp <;> omega))) | (refine Z0g rfl (fun h => ?_) (fun h => ?_) <;> (fail_if_success first | have := ntT h | have := ntF h) <;> (try simp only [tdyB] at h) <;> (try (exfalso; omega))))
 ·exact end1 rfl rfl ⟨ri (by unfold Z26; rw [if_pos h]), S.below⟩
 ·exact end1 rfl rfl ⟨ri (by unfold Z26; rw [if_neg (by omega)]), S.below⟩
theorem Zky : ∀ (x : GSpot), ∀ u ∈ Z1d.enc x, u.oneCell' = true := by intro x u hu; simp [Z1d, GSpot.enc] at hu; rcases hu with rfl | rfl <;> rfl

theorem Zkz {l : List GContract} {sp : List GSpot} (h : okI l sp = true) : Z3b l sp = (cntI l sp, 0) := by unfold Z3b; rw [h]; rfl

def okA8 (x : GArr8Int) : Prop := inI x.a0 ∧ inI x.a1 ∧ inI x.a2 ∧ inI x.a3 ∧ inI x.a4 ∧ inI x.a5 ∧ inI x.a6 ∧ inI x.a7
def okA2 (x : GArr2Int) : Prop := inI x.a0 ∧ inI x.a1
def orW (x d : Int) : Int := Z7j .or .i64 x (IntKind.i64.wrap (1 * 2 ^ (min d.toNat IntKind.i64.bits)))
def wkF (K : GArr8Int) (d : Nat) : Int := if 0 < Z26 K.a6 3 then orW (Z26 K.a6 16777216) (d : Int) else 16777215
def wkN (f : Nat → Int) (n : Nat) : GWeek := ⟨if 0 < n then f 0 else 0, if 1 < n then f 1 else 0, if 2 < n then f 2 else 0, if 3 < n then f 3 else 0, if 4 < n then f 4 else 0, if 5 < n then f 5 else 0, if 6 < n then f 6 else 0⟩
def Z9q (i : Int) (K : GArr8Int) : GContract := ⟨10 * i + Z26 K.a0 10, Z26 K.a1 4, Z26 K.a2 3, Z26 K.a3 200, 1 + Z26 K.a3 6, 1 + Z26 K.a4 (1 + Z26 K.a3 6), Z26 K.a4 2000, Z26 K.a5 1000, wkN (wkF K) 7, ⟨Z26 K.a7 100000, Z26 K.a7 100000 + 1 + Z26 K.a5 300000⟩⟩
def Zbj (xs : List GArr8Int) (n : Nat) : List GContract := (List.range n).map fun (i : Nat) => Z9q (i : Int) (nth xs (i : Int))
def Zid (xs : List GArr8Int) : List GContract := Zbj xs (min xs.length 8)
theorem Zie (xs : List GArr8Int) (n : Nat) : Zbj xs (n + 1) = Zbj xs n ++ [Z9q (n : Int) (nth xs (n : Int))] := by unfold Zbj; rw [List.range_succ, List.map_append]; rfl
theorem Z8q (xs : List GArr8Int) (n : Nat) : (Zbj xs n).length = n := by simp [Zbj]
set_option maxHeartbeats 4000000 in
theorem made_run {v : Value} {xs : List GArr8Int} {w0 : World} (hr : Rd Zaq.ty w0 v xs) (hx : ∀ x ∈ xs, okA8 x) (hl : xs.length ≤ maxLen) :
  CallsR Tryd.prog 11 #[v] w0 (fun r w' => Z2u Z14 70 w0 w' r (Zid xs)) := by
 have S := St.start w0
 have hml : maxLen ≤ 9223372036854775807 := by decide
 obtain ⟨A, c, rfl⟩ := hr.len
 refine CallsR.mk ?_
 refine Z0l Tryd.func11 rfl (by intro _ h; first | exact nomatch h.1 | (obtain ⟨_, h, _⟩ := h; exact nomatch h)) Tryd.ntmps11 rfl ?_
 repeat' (first | refine Z0a ?_ | refine Z02 ?_ | refine Z08 ?_ | refine Z01 ?_ | refine Z0f ?_ | refine Z04 rfl ?_)
 replace S := S.nilRow Z14 70
 refine Z1l (fun m σ w1 => ∃ (i : Nat) (p : Int) (vo : Value), Has σ [(0, .slice A xs.length c), (3, vo), (4, .int .i64 p)] ∧ St w0 w1 [Z16 Z14 70 vo (Zbj xs i)] ∧ p = i ∧ i ≤ min xs.length 8 ∧ m = 8 - i) 8 ⟨0, _, _, ⟨rfl, rfl, rfl, trivial⟩, S, rfl, by omega, rfl⟩ ?_
 clear S
 rintro m σ w1 ⟨i, p, vo, hs, S, hp, hi1, hm⟩
 refine Z1o hs ?_
 have hol := Z8q xs i
 by_cases hi : i < min xs.length 8
 ·obtain ⟨x0, x1, x2, x3, x4, x5, x6, x7⟩ := hx _ (Z2e (l := xs) (i := p) (by omega) (by omega))
  unfold inI at x0 x1 x2 x3 x4 x5 x6 x7
  have r0 := Z1m (c := (nth xs p).a0) (n := 10) (by omega)
  have r3 := Z1m (c := (nth xs p).a3) (n := 6) (by omega)
  have r4 := Z1m (c := (nth xs p).a4) (n := 1 + Z26 (nth xs p).a3 6) (by omega)
  have r7 := Z1m (c := (nth xs p).a7) (n := 100000) (by omega)
  have r5 := Z1m (c := (nth xs p).a5) (n := 300000) (by omega)
  have r6 := Z1m (c := (nth xs p).a6) (n := 3) (by omega)
  repeat' (first | refine Z0a ?_ | refine Z02 ?_ | refine Z08 ?_ | refine Z01 ?_ | refine Z0k ?_ | refine Z0f ?_ | refine Z28 10 (by kernel_rfl) (by decide +kernel) ?_ | refine Z4t 47 48 (by kernel_rfl) (by decide +kernel) ?_ | refine Zc0 ?_ | (refine Zdw rfl (Z1i S) (by rintro _ _ ⟨b, -, h, -⟩; exact h) ?_; rintro _ w ⟨b, rfl, -, S'⟩ w hb; replace S := S'.grow hb; clear S' hb) | (refine Z1q ?_; intro w hb; replace S := S.grow hb; clear hb) | refine Z06 rfl ?_ | refine Z04 rfl ?_ | refine Z0u rfl rfl ?_ | refine Z00 rfl (Z0z rfl rfl) ?_ | refine Z00 rfl (Z0e rfl) ?_ | (refine Z1e ?_; refine Z1r rfl ?_) | (refine Z3o ?_; (refine Z0c rfl (fun w' hb => Z12 rfl rfl ?_ ?_) ?_; (first | omega | simp <;> omega); (first | omega | simp <;> omega))) | (refine Z75 ?_; (refine Z0c rfl (fun w' hb => Z5f rfl rfl ?_ ?_) ?_; (first | omega | simp <;> omega); (first | omega | simp <;> omega))) | (refine Z9r ?_; refine Z0c rfl (fun w' hb => Z5v rfl rfl rfl rfl rfl rfl rfl) ?_) | (refine Z10 ?_; refine Z0c rfl (fun w' hb => Z09 rfl) ?_) | (refine Z0q ?_; first | (refine Z0c rfl (fun w' hb => Z07 (hr.mono (S.grow hb).below) rfl rfl ?_ ?_) ?_; (first | omega | simp <;> omega); (first | omega | simp <;> omega)) | (refine Z0c rfl (fun w' hb => Z17 rfl rfl ?_ ?_) ?_; (first | omega | simp <;> omega); (first | omega | simp <;> omega))) | (refine Z1f ?_; first | (refine Z0c rfl (fun w' hb => Z0i (hr.mono (S.grow hb).below) rfl ?_ ?_ rfl) ?_; (first | omega | simp <;> omega); (first | omega | simp <;> omega)) | (refine Z0c rfl (fun w' hb => Z11 (hr.mono (S.grow hb).below) rfl ?_ ?_ rfl) ?_; (first | omega | simp <;> omega); (first | omega | simp <;> omega)) | refine Z0c rfl (fun w' hb => Z0b (i := 1) (S.grow hb) rfl rfl rfl) ?_) | (refine Z1v ?_; refine Z20 rfl (fun w' hb => Z0w rfl rfl rfl) (fun w' hb => Z23 (by omega) (by omega) (by omega)) ?_) | (first | (refine Z05 rfl (Z03 (i := 0) S rfl rfl rfl rfl (dqq rfl) (dqq rfl)) ?_; clear S; intro w S) | (refine Z05 rfl (Z03 (i := 1) S rfl rfl rfl rfl (dqq rfl) (dqq rfl)) ?_; clear S; intro w S)) | (refine Z13 rfl rfl (fun h => ?_) (fun h => ?_) <;> (fail_if_success first | have := ntT h | have := ntF h) <;> (try simp only [tdyB] at h) <;> (try (exfalso; omega))) | (refine Z0g rfl (fun h => ?_) (fun h => ?_) <;> (fail_if_success first | have := ntT h | have := ntF h) <;> (try simp only [tdyB] at h) <;> (try (exfalso; omega))))
  refine Z1l (fun m σ w1 => ∃ (d : Nat) (q : Int) (b : Nat), Has σ [(0, .slice A xs.length c), (3, vo), (4, .int .i64 p), (5, .pointer (some ⟨b, 0, none⟩)), (6, .int .i64 q)] ∧ St w0 w1 [Z16 Z14 70 vo (Zbj xs i), .var b 70 (GContract.enc ⟨10 * p + Z26 (nth xs p).a0 10, Z26 (nth xs p).a1 4, Z26 (nth xs p).a2 3, Z26 (nth xs p).a3 200, 1 + Z26 (nth xs p).a3 6, 1 + Z26 (nth xs p).a4 (1 + Z26 (nth xs p).a3 6), Z26 (nth xs p).a4 2000, Z26 (nth xs p).a5 1000, wkN (wkF (nth xs p)) d, ⟨0, 0⟩⟩)] ∧ q = d ∧ d ≤ 7 ∧ m = 7 - d) 7 ⟨0, _, _, ⟨rfl, rfl, rfl, rfl, rfl, trivial⟩, S, rfl, by omega, rfl⟩ ?_
  clear S hs
  rintro m' σ w1 ⟨d, q, b, hs, S, hq, hd7, hm'⟩
  refine Z1o hs ?_
  by_cases hd : d = 7
  ·subst hd
   have hq : q = 7 := by omega
   subst hq
   repeat' (first | refine Z0a ?_ | refine Z02 ?_ | refine Z08 ?_ | refine Z01 ?_ | refine Z0s ?_ | refine Z15 ?_ | refine Z1b ?_ | refine Z18 rfl ?_ | refine Z28 13 (by kernel_rfl) (by decide +kernel) ?_ | (refine Z1q ?_; intro w hb; replace S := S.grow hb; clear hb) | refine Z06 rfl ?_ | refine Z00 rfl (Z0z rfl rfl) ?_ | refine Z00 rfl (Z09 rfl) ?_ | (first | (refine Z00 rfl (Z07 (hr.mono S.below) rfl rfl ?_ ?_) ?_; (first | omega | simp <;> omega); (first | omega | simp <;> omega)) | (refine Z00 rfl (Z17 rfl rfl ?_ ?_) ?_; (first | omega | simp <;> omega); (first | omega | simp <;> omega))) | (first | (refine Z00 rfl (Z11 (hr.mono S.below) rfl ?_ ?_ rfl) ?_; (first | omega | simp <;> omega); (first | omega | simp <;> omega)) | refine Z00 rfl (Z0m (i := 1) S rfl rfl rfl rfl) ?_) | ((refine Z0j rfl (Z0w rfl rfl rfl) (Z23 (by omega) (by omega) (by omega)) ?_; intro w hb; replace S := S.grow hb; clear hb)) | (refine Z1e ?_; refine Z1r rfl ?_) | (refine Z3o ?_; (refine Z0c rfl (fun w' hb => Z12 rfl rfl ?_ ?_) ?_; (first | omega | simp <;> omega); (first | omega | simp <;> omega))) | (refine Z10 ?_; refine Z0c rfl (fun w' hb => Z09 rfl) ?_) | (refine Z0q ?_; first | (refine Z0c rfl (fun w' hb => Z07 (hr.mono (S.grow hb).below) rfl rfl ?_ ?_) ?_; (first | omega | simp <;> omega); (first | omega | simp <;> omega)) | (refine Z0c rfl (fun w' hb => Z17 rfl rfl ?_ ?_) ?_; (first | omega | simp <;> omega); (first | omega | simp <;> omega))) | (refine Z1f ?_; first | (refine Z0c rfl (fun w' hb => Z11 (hr.mono (S.grow hb).below) rfl ?_ ?_ rfl) ?_; (first | omega | simp <;> omega); (first | omega | simp <;> omega)) | refine Z0c rfl (fun w' hb => Z0b (i := 1) (S.grow hb) rfl rfl rfl) ?_) | (refine Z1v ?_; refine Z20 rfl (fun w' hb => Z0w rfl rfl rfl) (fun w' hb => Z23 (by omega) (by omega) (by omega)) ?_) | (first | (refine Z05 rfl (Z03 (i := 0) S rfl rfl rfl rfl (dqq rfl) (dqq rfl)) ?_; clear S; intro w S) | (refine Z05 rfl (Z03 (i := 1) S rfl rfl rfl rfl (dqq rfl) (dqq rfl)) ?_; clear S; intro w S)))
   refine Z0n rfl (Z2z (D := Z14) [Z9q p (nth xs p)] (fun y => .agg y.enc.toArray) S rfl rfl (fun _ => rfl) rfl (by decide) (by decide)) ?_
   rintro _ w ⟨bl, rfl, -, hcl, S'⟩; replace S := S'; clear S'
   refine Z0n rfl (Z2t (D := Z14) (i := 0) (b := bl) (x := Z9q p (nth xs p)) S rfl rfl rfl (Z53 hcl) rfl (by decide) (dqq rfl) (by omega) (by omega)) ?_
   rintro vo' w ⟨-, S'⟩; replace S := S'; clear S' hcl
   repeat' (first | refine Z02 ?_ | refine Z08 ?_ | refine Z01 ?_ | refine Z0h ?_ | refine Z06 rfl ?_ | refine Z04 rfl ?_ | ((refine Z00 rfl (Z12 rfl rfl ?_ ?_) ?_; (first | omega | simp <;> omega); (first | omega | simp <;> omega))))
   refine ⟨⟨_, ?_, i + 1, _, vo', ⟨rfl, rfl, rfl, trivial⟩, by rw [Zie, ← hp]; exact S.keep [true], by omega, by omega, rfl⟩⟩
   omega
  have hdc : d = 0 ∨ d = 1 ∨ d = 2 ∨ d = 3 ∨ d = 4 ∨ d = 5 ∨ d = 6 := by omega
  by_cases h6 : 0 < Z26 (nth xs p).a6 3
  ·have ef : ∀ d : Nat, wkF (nth xs p) d = orW (Z26 (nth xs p).a6 16777216) (d : Int) := fun d => if_pos h6
   rcases hdc with rfl | rfl | rfl | rfl | rfl | rfl | rfl
   ·have hq : q = 0 := by omega
    subst hq
    repeat' (first | refine Z0a ?_ | refine Z02 ?_ | refine Z08 ?_ | refine Z01 ?_ | refine Z0h ?_ | refine Z0k ?_ | refine Z0f ?_ | refine Z0v rfl ?_ | refine Z28 12 (by kernel_rfl) (by decide +kernel) ?_ | (refine Z1q ?_; intro w hb; replace S := S.grow hb; clear hb) | refine Z06 rfl ?_ | refine Z04 rfl ?_ | ((refine Z00 rfl (Z12 rfl rfl ?_ ?_) ?_; (first | omega | simp <;> omega); (first | omega | simp <;> omega))) | refine Z00 rfl (Z0z rfl rfl) ?_ | refine Z00 rfl (Z2o rfl rfl) ?_ | refine Z00 rfl (Z09 rfl) ?_ | (first | (refine Z00 rfl (Z07 (hr.mono S.below) rfl rfl ?_ ?_) ?_; (first | omega | simp <;> omega); (first | omega | simp <;> omega)) | (refine Z00 rfl (Z17 rfl rfl ?_ ?_) ?_; (first | omega | simp <;> omega); (first | omega | simp <;> omega)) | (refine Z00 rfl (Z1a rfl rfl ?_ ?_) ?_; (first | omega | simp <;> omega); (first | omega | simp <;> omega))) | ((refine Z00 rfl (Z11 (hr.mono S.below) rfl ?_ ?_ rfl) ?_; (first | omega | simp <;> omega); (first | omega | simp <;> omega))) | ((refine Z0j rfl (Z0w rfl rfl rfl) (Z23 (by omega) (by omega) (by omega)) ?_; intro w hb; replace S := S.grow hb; clear hb)) | (refine Z1e ?_; refine Z1r rfl ?_) | (refine Z7t ?_; refine Z0c rfl (fun w' hb => r_or rfl rfl) ?_) | (refine Z6c ?_; (refine Z0c rfl (fun w' hb => Zf2 rfl rfl ?_) ?_; (first | omega | simp <;> omega))) | (refine Z10 ?_; refine Z0c rfl (fun w' hb => Z09 rfl) ?_) | (refine Z0q ?_; first | (refine Z0c rfl (fun w' hb => Z07 (hr.mono (S.grow hb).below) rfl rfl ?_ ?_) ?_; (first | omega | simp <;> omega); (first | omega | simp <;> omega)) | (refine Z0c rfl (fun w' hb => Z17 rfl rfl ?_ ?_) ?_; (first | omega | simp <;> omega); (first | omega | simp <;> omega)) | (refine Z0c rfl (fun w' hb => Z1a rfl rfl ?_ ?_) ?_; (first | omega | simp <;> omega); (first | omega | simp <;> omega))) | (refine Z1f ?_; (refine Z0c rfl (fun w' hb => Z11 (hr.mono (S.grow hb).below) rfl ?_ ?_ rfl) ?_; (first | omega | simp <;> omega); (first | omega | simp <;> omega))) | (refine Z1v ?_; refine Z20 rfl (fun w' hb => Z0w rfl rfl rfl) (fun w' hb => Z23 (by omega) (by omega) (by omega)) ?_) | (first | (refine Z05 rfl (Z03 (i := 0) S rfl rfl rfl rfl (dqq rfl) (dqq rfl)) ?_; clear S; intro w S) | (refine Z05 rfl (Z03 (i := 1) S rfl rfl rfl rfl (dqq rfl) (dqq rfl)) ?_; clear S; intro w S)) | (refine Z0g rfl (fun h => ?_) (fun h => ?_) <;> (fail_if_success first | have := ntT h | have := ntF h) <;> (try simp only [tdyB] at h) <;> (try (exfalso; omega))))
    all_goals
     refine ⟨⟨_, ?_, 1, _, b, ⟨rfl, rfl, rfl, rfl, rfl, trivial⟩, ?_, by omega, by omega, rfl⟩⟩
     ·omega
     ·simp only [wkN, ef] at S ⊢
      exact S
   ·have hq : q = 1 := by omega
    subst hq
    repeat' (first | refine Z0a ?_ | refine Z02 ?_ | refine Z08 ?_ | refine Z01 ?_ | refine Z0h ?_ | refine Z0k ?_ | refine Z0f ?_ | refine Z0v rfl ?_ | refine Z28 12 (by kernel_rfl) (by decide +kernel) ?_ | (refine Z1q ?_; intro w hb; replace S := S.grow hb; clear hb) | refine Z06 rfl ?_ | refine Z04 rfl ?_ | ((refine Z00 rfl (Z12 rfl rfl ?_ ?_) ?_; (first | omega | simp <;> omega); (first | omega | simp <;> omega))) | refine Z00 rfl (Z0z rfl rfl) ?_ | refine Z00 rfl (Z2o rfl rfl) ?_ | refine Z00 rfl (Z09 rfl) ?_ | (first | (refine Z00 rfl (Z07 (hr.mono S.below) rfl rfl ?_ ?_) ?_; (first | omega | simp <;> omega); (first | omega | simp <;> omega)) | (refine Z00 rfl (Z17 rfl rfl ?_ ?_) ?_; (first | omega | simp <;> omega); (first | omega | simp <;> omega)) | (refine Z00 rfl (Z1a rfl rfl ?_ ?_) ?_; (first | omega | simp <;> omega); (first | omega | simp <;> omega))) | ((refine Z00 rfl (Z11 (hr.mono S.below) rfl ?_ ?_ rfl) ?_; (first | omega | simp <;> omega); (first | omega | simp <;> omega))) | ((refine Z0j rfl (Z0w rfl rfl rfl) (Z23 (by omega) (by omega) (by omega)) ?_; intro w hb; replace S := S.grow hb; clear hb)) | (refine Z1e ?_; refine Z1r rfl ?_) | (refine Z7t ?_; refine Z0c rfl (fun w' hb => r_or rfl rfl) ?_) | (refine Z6c ?_; (refine Z0c rfl (fun w' hb => Zf2 rfl rfl ?_) ?_; (first | omega | simp <;> omega))) | (refine Z10 ?_; refine Z0c rfl (fun w' hb => Z09 rfl) ?_) | (refine Z0q ?_; first | (refine Z0c rfl (fun w' hb => Z07 (hr.mono (S.grow hb).below) rfl rfl ?_ ?_) ?_; (first | omega | simp <;> omega); (first | omega | simp <;> omega)) | (refine Z0c rfl (fun w' hb => Z17 rfl rfl ?_ ?_) ?_; (first | omega | simp <;> omega); (first | omega | simp <;> omega)) | (refine Z0c rfl (fun w' hb => Z1a rfl rfl ?_ ?_) ?_; (first | omega | simp <;> omega); (first | omega | simp <;> omega))) | (refine Z1f ?_; (refine Z0c rfl (fun w' hb => Z11 (hr.mono (S.grow hb).below) rfl ?_ ?_ rfl) ?_; (first | omega | simp <;> omega); (first | omega | simp <;> omega))) | (refine Z1v ?_; refine Z20 rfl (fun w' hb => Z0w rfl rfl rfl) (fun w' hb => Z23 (by omega) (by omega) (by omega)) ?_) | (first | (refine Z05 rfl (Z03 (i := 0) S rfl rfl rfl rfl (dqq rfl) (dqq rfl)) ?_; clear S; intro w S) | (refine Z05 rfl (Z03 (i := 1) S rfl rfl rfl rfl (dqq rfl) (dqq rfl)) ?_; clear S; intro w S)) | (refine Z0g rfl (fun h => ?_) (fun h => ?_) <;> (fail_if_success first | have := ntT h | have := ntF h) <;> (try simp only [tdyB] at h) <;> (try (exfalso; omega))))
    all_goals
     refine ⟨⟨_, ?_, 2, _, b, ⟨rfl, rfl, rfl, rfl, rfl, trivial⟩, ?_, by omega, by omega, rfl⟩⟩
     ·omega
     ·simp only [wkN, ef] at S ⊢
      exact S
   ·have hq : q = 2 := by omega
    subst hq
    repeat' (first | refine Z0a ?_ | refine Z02 ?_ | refine Z08 ?_ | refine Z01 ?_ | refine Z0h ?_ | refine Z0k ?_ | refine Z0f ?_ | refine Z0v rfl ?_ | refine Z28 12 (by kernel_rfl) (by decide +kernel) ?_ | (refine Z1q ?_; intro w hb; replace S := S.grow hb; clear hb) | refine Z06 rfl ?_ | refine Z04 rfl ?_ | ((refine Z00 rfl (Z12 rfl rfl ?_ ?_) ?_; (first | omega | simp <;> omega); (first | omega | simp <;> omega))) | refine Z00 rfl (Z0z rfl rfl) ?_ | refine Z00 rfl (Z2o rfl rfl) ?_ | refine Z00 rfl (Z09 rfl) ?_ | (first | (refine Z00 rfl (Z07 (hr.mono S.below) rfl rfl ?_ ?_) ?_; (first | omega | simp <;> omega); (first | omega | simp <;> omega)) | (refine Z00 rfl (Z17 rfl rfl ?_ ?_) ?_; (first | omega | simp <;> omega); (first | omega | simp <;> omega)) | (refine Z00 rfl (Z1a rfl rfl ?_ ?_) ?_; (first | omega | simp <;> omega); (first | omega | simp <;> omega))) | ((refine Z00 rfl (Z11 (hr.mono S.below) rfl ?_ ?_ rfl) ?_; (first | omega | simp <;> omega); (first | omega | simp <;> omega))) | ((refine Z0j rfl (Z0w rfl rfl rfl) (Z23 (by omega) (by omega) (by omega)) ?_; intro w hb; replace S := S.grow hb; clear hb)) | (refine Z1e ?_; refine Z1r rfl ?_) | (refine Z7t ?_; refine Z0c rfl (fun w' hb => r_or rfl rfl) ?_) | (refine Z6c ?_; (refine Z0c rfl (fun w' hb => Zf2 rfl rfl ?_) ?_; (first | omega | simp <;> omega))) | (refine Z10 ?_; refine Z0c rfl (fun w' hb => Z09 rfl) ?_) | (refine Z0q ?_; first | (refine Z0c rfl (fun w' hb => Z07 (hr.mono (S.grow hb).below) rfl rfl ?_ ?_) ?_; (first | omega | simp <;> omega); (first | omega | simp <;> omega)) | (refine Z0c rfl (fun w' hb => Z17 rfl rfl ?_ ?_) ?_; (first | omega | simp <;> omega); (first | omega | simp <;> omega)) | (refine Z0c rfl (fun w' hb => Z1a rfl rfl ?_ ?_) ?_; (first | omega | simp <;> omega); (first | omega | simp <;> omega))) | (refine Z1f ?_; (refine Z0c rfl (fun w' hb => Z11 (hr.mono (S.grow hb).below) rfl ?_ ?_ rfl) ?_; (first | omega | simp <;> omega); (first | omega | simp <;> omega))) | (refine Z1v ?_; refine Z20 rfl (fun w' hb => Z0w rfl rfl rfl) (fun w' hb => Z23 (by omega) (by omega) (by omega)) ?_) | (first | (refine Z05 rfl (Z03 (i := 0) S rfl rfl rfl rfl (dqq rfl) (dqq rfl)) ?_; clear S; intro w S) | (refine Z05 rfl (Z03 (i := 1) S rfl rfl rfl rfl (dqq rfl) (dqq rfl)) ?_; clear S; intro w S)) | (refine Z0g rfl (fun h => ?_) (fun h => ?_) <;> (fail_if_success first | have := ntT h | have := ntF h) <;> (try simp only [tdyB] at h) <;> (try (exfalso; omega))))
    all_goals
     refine ⟨⟨_, ?_, 3, _, b, ⟨rfl, rfl, rfl, rfl, rfl, trivial⟩, ?_, by omega, by omega, rfl⟩⟩
     ·omega
     ·simp only [wkN, ef] at S ⊢
      exact S
   ·have hq : q = 3 := by omega
    subst hq
    repeat' (first | refine Z0a ?_ | refine Z02 ?_ | refine Z08 ?_ | refine Z01 ?_ | refine Z0h ?_ | refine Z0k ?_ | refine Z0f ?_ | refine Z0v rfl ?_ | refine Z28 12 (by kernel_rfl) (by decide +kernel) ?_ | (refine Z1q ?_; intro w hb; replace S := S.grow hb; clear hb) | refine Z06 rfl ?_ | refine Z04 rfl ?_ | ((refine Z00 rfl (Z12 rfl rfl ?_ ?_) ?_; (first | omega | simp <;> omega); (first | omega | simp <;> omega))) | refine Z00 rfl (Z0z rfl rfl) ?_ | refine Z00 rfl (Z2o rfl rfl) ?_ | refine Z00 rfl (Z09 rfl) ?_ | (first | (refine Z00 rfl (Z07 (hr.mono S.below) rfl rfl ?_ ?_) ?_; (first | omega | simp <;> omega); (first | omega | simp <;> omega)) | (refine Z00 rfl (Z17 rfl rfl ?_ ?_) ?_; (first | omega | simp <;> omega); (first | omega | simp <;> omega)) | (refine Z00 rfl (Z1a rfl rfl ?_ ?_) ?_; (first | omega | simp <;> omega); (first | omega | simp <;> omega))) | ((refine Z00 rfl (Z11 (hr.mono S.below) rfl ?_ ?_ rfl) ?_; (first | omega | simp <;> omega); (first | omega | simp <;> omega))) | ((refine Z0j rfl (Z0w rfl rfl rfl) (Z23 (by omega) (by omega) (by omega)) ?_; intro w hb; replace S := S.grow hb; clear hb)) | (refine Z1e ?_; refine Z1r rfl ?_) | (refine Z7t ?_; refine Z0c rfl (fun w' hb => r_or rfl rfl) ?_) | (refine Z6c ?_; (refine Z0c rfl (fun w' hb => Zf2 rfl rfl ?_) ?_; (first | omega | simp <;> omega))) | (refine Z10 ?_; refine Z0c rfl (fun w' hb => Z09 rfl) ?_) | (refine Z0q ?_; first | (refine Z0c rfl (fun w' hb => Z07 (hr.mono (S.grow hb).below) rfl rfl ?_ ?_) ?_; (first | omega | simp <;> omega); (first | omega | simp <;> omega)) | (refine Z0c rfl (fun w' hb => Z17 rfl rfl ?_ ?_) ?_; (first | omega | simp <;> omega); (first | omega | simp <;> omega)) | (refine Z0c rfl (fun w' hb => Z1a rfl rfl ?_ ?_) ?_; (first | omega | simp <;> omega); (first | omega | simp <;> omega))) | (refine Z1f ?_; (refine Z0c rfl (fun w' hb => Z11 (hr.mono (S.grow hb).below) rfl ?_ ?_ rfl) ?_; (first | omega | simp <;> omega); (first | omega | simp <;> omega))) | (refine Z1v ?_; refine Z20 rfl (fun w' hb => Z0w rfl rfl rfl) (fun w' hb => Z23 (by omega) (by omega) (by omega)) ?_) | (first | (refine Z05 rfl (Z03 (i := 0) S rfl rfl rfl rfl (dqq rfl) (dqq rfl)) ?_; clear S; intro w S) | (refine Z05 rfl (Z03 (i := 1) S rfl rfl rfl rfl (dqq rfl) (dqq rfl)) ?_; clear S; intro w S)) | (refine Z0g rfl (fun h => ?_) (fun h => ?_) <;> (fail_if_success first | have := ntT h | have := ntF h) <;> (try simp only [tdyB] at h) <;> (try (exfalso; omega))))
    all_goals
     refine ⟨⟨_, ?_, 4, _, b, ⟨rfl, rfl, rfl, rfl, rfl, trivial⟩, ?_, by omega, by omega, rfl⟩⟩
     ·omega
     ·simp only [wkN, ef] at S ⊢
      exact S
   ·have hq : q = 4 := by omega
    subst hq
    repeat' (first | refine Z0a ?_ | refine Z02 ?_ | refine Z08 ?_ | refine Z01 ?_ | refine Z0h ?_ | refine Z0k ?_ | refine Z0f ?_ | refine Z0v rfl ?_ | refine Z28 12 (by kernel_rfl) (by decide +kernel) ?_ | (refine Z1q ?_; intro w hb; replace S := S.grow hb; clear hb) | refine Z06 rfl ?_ | refine Z04 rfl ?_ | ((refine Z00 rfl (Z12 rfl rfl ?_ ?_) ?_; (first | omega | simp <;> omega); (first | omega | simp <;> omega))) | refine Z00 rfl (Z0z rfl rfl) ?_ | refine Z00 rfl (Z2o rfl rfl) ?_ | refine Z00 rfl (Z09 rfl) ?_ | (first | (refine Z00 rfl (Z07 (hr.mono S.below) rfl rfl ?_ ?_) ?_; (first | omega | simp <;> omega); (first | omega | simp <;> omega)) | (refine Z00 rfl (Z17 rfl rfl ?_ ?_) ?_; (first | omega | simp <;> omega); (first | omega | simp <;> omega)) | (refine Z00 rfl (Z1a rfl rfl ?_ ?_) ?_; (first | omega | simp <;> omega); (first | omega | simp <;> omega))) | ((refine Z00 rfl (Z11 (hr.mono S.below) rfl ?_ ?_ rfl) ?_; (first | omega | simp <;> omega); (first | omega | simp <;> omega))) | ((refine Z0j rfl (Z0w rfl rfl rfl) (Z23 (by omega) (by omega) (by omega)) ?_; intro w hb; replace S := S.grow hb; clear hb)) | (refine Z1e ?_; refine Z1r rfl ?_) | (refine Z7t ?_; refine Z0c rfl (fun w' hb => r_or rfl rfl) ?_) | (refine Z6c ?_; (refine Z0c rfl (fun w' hb => Zf2 rfl rfl ?_) ?_; (first | omega | simp <;> omega))) | (refine Z10 ?_; refine Z0c rfl (fun w' hb => Z09 rfl) ?_) | (refine Z0q ?_; first | (refine Z0c rfl (fun w' hb => Z07 (hr.mono (S.grow hb).below) rfl rfl ?_ ?_) ?_; (first | omega | simp <;> omega); (first | omega | simp <;> omega)) | (refine Z0c rfl (fun w' hb => Z17 rfl rfl ?_ ?_) ?_; (first | omega | simp <;> omega); (first | omega | simp <;> omega)) | (refine Z0c rfl (fun w' hb => Z1a rfl rfl ?_ ?_) ?_; (first | omega | simp <;> omega); (first | omega | simp <;> omega))) | (refine Z1f ?_; (refine Z0c rfl (fun w' hb => Z11 (hr.mono (S.grow hb).below) rfl ?_ ?_ rfl) ?_; (first | omega | simp <;> omega); (first | omega | simp <;> omega))) | (refine Z1v ?_; refine Z20 rfl (fun w' hb => Z0w rfl rfl rfl) (fun w' hb => Z23 (by omega) (by omega) (by omega)) ?_) | (first | (refine Z05 rfl (Z03 (i := 0) S rfl rfl rfl rfl (dqq rfl) (dqq rfl)) ?_; clear S; intro w S) | (refine Z05 rfl (Z03 (i := 1) S rfl rfl rfl rfl (dqq rfl) (dqq rfl)) ?_; clear S; intro w S)) | (refine Z0g rfl (fun h => ?_) (fun h => ?_) <;> (fail_if_success first | have := ntT h | have := ntF h) <;> (try simp only [tdyB] at h) <;> (try (exfalso; omega))))
    all_goals
     refine ⟨⟨_, ?_, 5, _, b, ⟨rfl, rfl, rfl, rfl, rfl, trivial⟩, ?_, by omega, by omega, rfl⟩⟩
     ·omega
     ·simp only [wkN, ef] at S ⊢
      exact S
   ·have hq : q = 5 := by omega
    subst hq
    repeat' (first | refine Z0a ?_ | refine Z02 ?_ | refine Z08 ?_ | refine Z01 ?_ | refine Z0h ?_ | refine Z0k ?_ | refine Z0f ?_ | refine Z0v rfl ?_ | refine Z28 12 (by kernel_rfl) (by decide +kernel) ?_ | (refine Z1q ?_; intro w hb; replace S := S.grow hb; clear hb) | refine Z06 rfl ?_ | refine Z04 rfl ?_ | ((refine Z00 rfl (Z12 rfl rfl ?_ ?_) ?_; (first | omega | simp <;> omega); (first | omega | simp <;> omega))) | refine Z00 rfl (Z0z rfl rfl) ?_ | refine Z00 rfl (Z2o rfl rfl) ?_ | refine Z00 rfl (Z09 rfl) ?_ | (first | (refine Z00 rfl (Z07 (hr.mono S.below) rfl rfl ?_ ?_) ?_; (first | omega | simp <;> omega); (first | omega | simp <;> omega)) | (refine Z00 rfl (Z17 rfl rfl ?_ ?_) ?_; (first | omega | simp <;> omega); (first | omega | simp <;> omega)) | (refine Z00 rfl (Z1a rfl rfl ?_ ?_) ?_; (first | omega | simp <;> omega); (first | omega | simp <;> omega))) | ((refine Z00 rfl (Z11 (hr.mono S.below) rfl ?_ ?_ rfl) ?_; (first | omega | simp <;> omega); (first | omega | simp <;> omega))) | ((refine Z0j rfl (Z0w rfl rfl rfl) (Z23 (by omega) (by omega) (by omega)) ?_; intro w hb; replace S := S.grow hb; clear hb)) | (refine Z1e ?_; refine Z1r rfl ?_) | (refine Z7t ?_; refine Z0c rfl (fun w' hb => r_or rfl rfl) ?_) | (refine Z6c ?_; (refine Z0c rfl (fun w' hb => Zf2 rfl rfl ?_) ?_; (first | omega | simp <;> omega))) | (refine Z10 ?_; refine Z0c rfl (fun w' hb => Z09 rfl) ?_) | (refine Z0q ?_; first | (refine Z0c rfl (fun w' hb => Z07 (hr.mono (S.grow hb).below) rfl rfl ?_ ?_) ?_; (first | omega | simp <;> omega); (first | omega | simp <;> omega)) | (refine Z0c rfl (fun w' hb => Z17 rfl rfl ?_ ?_) ?_; (first | omega | simp <;> omega); (first | omega | simp <;> omega)) | (refine Z0c rfl (fun w' hb => Z1a rfl rfl ?_ ?_) ?_; (first | omega | simp <;> omega); (first | omega | simp <;> omega))) | (refine Z1f ?_; (refine Z0c rfl (fun w' hb => Z11 (hr.mono (S.grow hb).below) rfl ?_ ?_ rfl) ?_; (first | omega | simp <;> omega); (first | omega | simp <;> omega))) | (refine Z1v ?_; refine Z20 rfl (fun w' hb => Z0w rfl rfl rfl) (fun w' hb => Z23 (by omega) (by omega) (by omega)) ?_) | (first | (refine Z05 rfl (Z03 (i := 0) S rfl rfl rfl rfl (dqq rfl) (dqq rfl)) ?_; clear S; intro w S) | (refine Z05 rfl (Z03 (i := 1) S rfl rfl rfl rfl (dqq rfl) (dqq rfl)) ?_; clear S; intro w S)) | (refine Z0g rfl (fun h => ?_) (fun h => ?_) <;> (fail_if_success first | have := ntT h | have := ntF h) <;> (try simp only [tdyB] at h) <;> (try (exfalso; omega))))
    all_goals
     refine ⟨⟨_, ?_, 6, _, b, ⟨rfl, rfl, rfl, rfl, rfl, trivial⟩, ?_, by omega, by omega, rfl⟩⟩
     ·omega
     ·simp only [wkN, ef] at S ⊢
      exact S
   ·have hq : q = 6 := by omega
    subst hq
    repeat' (first | refine Z0a ?_ | refine Z02 ?_ | refine Z08 ?_ | refine Z01 ?_ | refine Z0h ?_ | refine Z0k ?_ | refine Z0f ?_ | refine Z0v rfl ?_ | refine Z28 12 (by kernel_rfl) (by decide +kernel) ?_ | (refine Z1q ?_; intro w hb; replace S := S.grow hb; clear hb) | refine Z06 rfl ?_ | refine Z04 rfl ?_ | ((refine Z00 rfl (Z12 rfl rfl ?_ ?_) ?_; (first | omega | simp <;> omega); (first | omega | simp <;> omega))) | refine Z00 rfl (Z0z rfl rfl) ?_ | refine Z00 rfl (Z2o rfl rfl) ?_ | refine Z00 rfl (Z09 rfl) ?_ | (first | (refine Z00 rfl (Z07 (hr.mono S.below) rfl rfl ?_ ?_) ?_; (first | omega | simp <;> omega); (first | omega | simp <;> omega)) | (refine Z00 rfl (Z17 rfl rfl ?_ ?_) ?_; (first | omega | simp <;> omega); (first | omega | simp <;> omega)) | (refine Z00 rfl (Z1a rfl rfl ?_ ?_) ?_; (first | omega | simp <;> omega); (first | omega | simp <;> omega))) | ((refine Z00 rfl (Z11 (hr.mono S.below) rfl ?_ ?_ rfl) ?_; (first | omega | simp <;> omega); (first | omega | simp <;> omega))) | ((refine Z0j rfl (Z0w rfl rfl rfl) (Z23 (by omega) (by omega) (by omega)) ?_; intro w hb; replace S := S.grow hb; clear hb)) | (refine Z1e ?_; refine Z1r rfl ?_) | (refine Z7t ?_; refine Z0c rfl (fun w' hb => r_or rfl rfl) ?_) | (refine Z6c ?_; (refine Z0c rfl (fun w' hb => Zf2 rfl rfl ?_) ?_; (first | omega | simp <;> omega))) | (refine Z10 ?_; refine Z0c rfl (fun w' hb => Z09 rfl) ?_) | (refine Z0q ?_; first | (refine Z0c rfl (fun w' hb => Z07 (hr.mono (S.grow hb).below) rfl rfl ?_ ?_) ?_; (first | omega | simp <;> omega); (first | omega | simp <;> omega)) | (refine Z0c rfl (fun w' hb => Z17 rfl rfl ?_ ?_) ?_; (first | omega | simp <;> omega); (first | omega | simp <;> omega)) | (refine Z0c rfl (fun w' hb => Z1a rfl rfl ?_ ?_) ?_; (first | omega | simp <;> omega); (first | omega | simp <;> omega))) | (refine Z1f ?_; (refine Z0c rfl (fun w' hb => Z11 (hr.mono (S.grow hb).below) rfl ?_ ?_ rfl) ?_; (first | omega | simp <;> omega); (first | omega | simp <;> omega))) | (refine Z1v ?_; refine Z20 rfl (fun w' hb => Z0w rfl rfl rfl) (fun w' hb => Z23 (by omega) (by omega) (by omega)) ?_) | (first | (refine Z05 rfl (Z03 (i := 0) S rfl rfl rfl rfl (dqq rfl) (dqq rfl)) ?_; clear S; intro w S) | (refine Z05 rfl (Z03 (i := 1) S rfl rfl rfl rfl (dqq rfl) (dqq rfl)) ?_; clear S; intro w S)) | (refine Z0g rfl (fun h => ?_) (fun h => ?_) <;> (fail_if_success first | have := ntT h | have := ntF h) <;> (try simp only [tdyB] at h) <;> (try (exfalso; omega))))
    all_goals
     refine ⟨⟨_, ?_, 7, _, b, ⟨rfl, rfl, rfl, rfl, rfl, trivial⟩, ?_, by omega, by omega, rfl⟩⟩
     ·omega
     ·simp only [wkN, ef] at S ⊢
      exact S
  ·have ef : ∀ d : Nat, wkF (nth xs p) d = 16777215 := fun d => if_neg h6
   rcases hdc with rfl | rfl | rfl | rfl | rfl | rfl | rfl
   ·have hq : q = 0 := by omega
    subst hq
    repeat' (first | refine Z0a ?_ | refine Z02 ?_ | refine Z08 ?_ | refine Z01 ?_ | refine Z0h ?_ | refine Z0k ?_ | refine Z0f ?_ | refine Z0v rfl ?_ | refine Z06 rfl ?_ | refine Z04 rfl ?_ | ((refine Z00 rfl (Z12 rfl rfl ?_ ?_) ?_; (first | omega | simp <;> omega); (first | omega | simp <;> omega))) | refine Z00 rfl (Z0z rfl rfl) ?_ | refine Z00 rfl (Z2o rfl rfl) ?_ | refine Z00 rfl (Z09 rfl) ?_ | (first | (refine Z00 rfl (Z07 (hr.mono S.below) rfl rfl ?_ ?_) ?_; (first | omega | simp <;> omega); (first | omega | simp <;> omega)) | (refine Z00 rfl (Z17 rfl rfl ?_ ?_) ?_; (first | omega | simp <;> omega); (first | omega | simp <;> omega)) | (refine Z00 rfl (Z1a rfl rfl ?_ ?_) ?_; (first | omega | simp <;> omega); (first | omega | simp <;> omega))) | ((refine Z00 rfl (Z11 (hr.mono S.below) rfl ?_ ?_ rfl) ?_; (first | omega | simp <;> omega); (first | omega | simp <;> omega))) | ((refine Z0j rfl (Z0w rfl rfl rfl) (Z23 (by omega) (by omega) (by omega)) ?_; intro w hb; replace S := S.grow hb; clear hb)) | (first | (refine Z05 rfl (Z03 (i := 0) S rfl rfl rfl rfl (dqq rfl) (dqq rfl)) ?_; clear S; intro w S) | (refine Z05 rfl (Z03 (i := 1) S rfl rfl rfl rfl (dqq rfl) (dqq rfl)) ?_; clear S; intro w S)) | (refine Z0g rfl (fun h => ?_) (fun h => ?_) <;> (fail_if_success first | have := ntT h | have := ntF h) <;> (try simp only [tdyB] at h) <;> (try (exfalso; omega))))
    all_goals
     refine ⟨⟨_, ?_, 1, _, b, ⟨rfl, rfl, rfl, rfl, rfl, trivial⟩, ?_, by omega, by omega, rfl⟩⟩
     ·omega
     ·simp only [wkN, ef] at S ⊢
      exact S
   ·have hq : q = 1 := by omega
    subst hq
    repeat' (first | refine Z0a ?_ | refine Z02 ?_ | refine Z08 ?_ | refine Z01 ?_ | refine Z0h ?_ | refine Z0k ?_ | refine Z0f ?_ | refine Z0v rfl ?_ | refine Z06 rfl ?_ | refine Z04 rfl ?_ | ((refine Z00 rfl (Z12 rfl rfl ?_ ?_) ?_; (first | omega | simp <;> omega); (first | omega | simp <;> omega))) | refine Z00 rfl (Z0z rfl rfl) ?_ | refine Z00 rfl (Z2o rfl rfl) ?_ | refine Z00 rfl (Z09 rfl) ?_ | (first | (refine Z00 rfl (Z07 (hr.mono S.below) rfl rfl ?_ ?_) ?_; (first | omega | simp <;> omega); (first | omega | simp <;> omega)) | (refine Z00 rfl (Z17 rfl rfl ?_ ?_) ?_; (first | omega | simp <;> omega); (first | omega | simp <;> omega)) | (refine Z00 rfl (Z1a rfl rfl ?_ ?_) ?_; (first | omega | simp <;> omega); (first | omega | simp <;> omega))) | ((refine Z00 rfl (Z11 (hr.mono S.below) rfl ?_ ?_ rfl) ?_; (first | omega | simp <;> omega); (first | omega | simp <;> omega))) | ((refine Z0j rfl (Z0w rfl rfl rfl) (Z23 (by omega) (by omega) (by omega)) ?_; intro w hb; replace S := S.grow hb; clear hb)) | (first | (refine Z05 rfl (Z03 (i := 0) S rfl rfl rfl rfl (dqq rfl) (dqq rfl)) ?_; clear S; intro w S) | (refine Z05 rfl (Z03 (i := 1) S rfl rfl rfl rfl (dqq rfl) (dqq rfl)) ?_; clear S; intro w S)) | (refine Z0g rfl (fun h => ?_) (fun h => ?_) <;> (fail_if_success first | have := ntT h | have := ntF h) <;> (try simp only [tdyB] at h) <;> (try (exfalso; omega))))
    all_goals
     refine ⟨⟨_, ?_, 2, _, b, ⟨rfl, rfl, rfl, rfl, rfl, trivial⟩, ?_, by omega, by omega, rfl⟩⟩
     ·omega
     ·simp only [wkN, ef] at S ⊢
      exact S
   ·have hq : q = 2 := by omega
    subst hq
    repeat' (first | refine Z0a ?_ | refine Z02 ?_ | refine Z08 ?_ | refine Z01 ?_ | refine Z0h ?_ | refine Z0k ?_ | refine Z0f ?_ | refine Z0v rfl ?_ | refine Z06 rfl ?_ | refine Z04 rfl ?_ | ((refine Z00 rfl (Z12 rfl rfl ?_ ?_) ?_; (first | omega | simp <;> omega); (first | omega | simp <;> omega))) | refine Z00 rfl (Z0z rfl rfl) ?_ | refine Z00 rfl (Z2o rfl rfl) ?_ | refine Z00 rfl (Z09 rfl) ?_ | (first | (refine Z00 rfl (Z07 (hr.mono S.below) rfl rfl ?_ ?_) ?_; (first | omega | simp <;> omega); (first | omega | simp <;> omega)) | (refine Z00 rfl (Z17 rfl rfl ?_ ?_) ?_; (first | omega | simp <;> omega); (first | omega | simp <;> omega)) | (refine Z00 rfl (Z1a rfl rfl ?_ ?_) ?_; (first | omega | simp <;> omega); (first | omega | simp <;> omega))) | ((refine Z00 rfl (Z11 (hr.mono S.below) rfl ?_ ?_ rfl) ?_; (first | omega | simp <;> omega); (first | omega | simp <;> omega))) | ((refine Z0j rfl (Z0w rfl rfl rfl) (Z23 (by omega) (by omega) (by omega)) ?_; intro w hb; replace S := S.grow hb; clear hb)) | (first | (refine Z05 rfl (Z03 (i := 0) S rfl rfl rfl rfl (dqq rfl) (dqq rfl)) ?_; clear S; intro w S) | (refine Z05 rfl (Z03 (i := 1) S rfl rfl rfl rfl (dqq rfl) (dqq rfl)) ?_; clear S; intro w S)) | (refine Z0g rfl (fun h => ?_) (fun h => ?_) <;> (fail_if_success first | have := ntT h | have := ntF h) <;> (try simp only [tdyB] at h) <;> (try (exfalso; omega))))
    all_goals
     refine ⟨⟨_, ?_, 3, _, b, ⟨rfl, rfl, rfl, rfl, rfl, trivial⟩, ?_, by omega, by omega, rfl⟩⟩
     ·omega
     ·simp only [wkN, ef] at S ⊢
      exact S
   ·have hq : q = 3 := by omega
    subst hq
    repeat' (first | refine Z0a ?_ | refine Z02 ?_ | refine Z08 ?_ | refine Z01 ?_ | refine Z0h ?_ | refine Z0k ?_ | refine Z0f ?_ | refine Z0v rfl ?_ | refine Z06 rfl ?_ | refine Z04 rfl ?_ | ((refine Z00 rfl (Z12 rfl rfl ?_ ?_) ?_; (first | omega | simp <;> omega); (first | omega | simp <;> omega))) | refine Z00 rfl (Z0z rfl rfl) ?_ | refine Z00 rfl (Z2o rfl rfl) ?_ | refine Z00 rfl (Z09 rfl) ?_ | (first | (refine Z00 rfl (Z07 (hr.mono S.below) rfl rfl ?_ ?_) ?_; (first | omega | simp <;> omega); (first | omega | simp <;> omega)) | (refine Z00 rfl (Z17 rfl rfl ?_ ?_) ?_; (first | omega | simp <;> omega); (first | omega | simp <;> omega)) | (refine Z00 rfl (Z1a rfl rfl ?_ ?_) ?_; (first | omega | simp <;> omega); (first | omega | simp <;> omega))) | ((refine Z00 rfl (Z11 (hr.mono S.below) rfl ?_ ?_ rfl) ?_; (first | omega | simp <;> omega); (first | omega | simp <;> omega))) | ((refine Z0j rfl (Z0w rfl rfl rfl) (Z23 (by omega) (by omega) (by omega)) ?_; intro w hb; replace S := S.grow hb; clear hb)) | (first | (refine Z05 rfl (Z03 (i := 0) S rfl rfl rfl rfl (dqq rfl) (dqq rfl)) ?_; clear S; intro w S) | (refine Z05 rfl (Z03 (i := 1) S rfl rfl rfl rfl (dqq rfl) (dqq rfl)) ?_; clear S; intro w S)) | (refine Z0g rfl (fun h => ?_) (fun h => ?_) <;> (fail_if_success first | have := ntT h | have := ntF h) <;> (try simp only [tdyB] at h) <;> (try (exfalso; omega))))
    all_goals
     refine ⟨⟨_, ?_, 4, _, b, ⟨rfl, rfl, rfl, rfl, rfl, trivial⟩, ?_, by omega, by omega, rfl⟩⟩
     ·omega
     ·simp only [wkN, ef] at S ⊢
      exact S
   ·have hq : q = 4 := by omega
    subst hq
    repeat' (first | refine Z0a ?_ | refine Z02 ?_ | refine Z08 ?_ | refine Z01 ?_ | refine Z0h ?_ | refine Z0k ?_ | refine Z0f ?_ | refine Z0v rfl ?_ | refine Z06 rfl ?_ | refine Z04 rfl ?_ | ((refine Z00 rfl (Z12 rfl rfl ?_ ?_) ?_; (first | omega | simp <;> omega); (first | omega | simp <;> omega))) | refine Z00 rfl (Z0z rfl rfl) ?_ | refine Z00 rfl (Z2o rfl rfl) ?_ | refine Z00 rfl (Z09 rfl) ?_ | (first | (refine Z00 rfl (Z07 (hr.mono S.below) rfl rfl ?_ ?_) ?_; (first | omega | simp <;> omega); (first | omega | simp <;> omega)) | (refine Z00 rfl (Z17 rfl rfl ?_ ?_) ?_; (first | omega | simp <;> omega); (first | omega | simp <;> omega)) | (refine Z00 rfl (Z1a rfl rfl ?_ ?_) ?_; (first | omega | simp <;> omega); (first | omega | simp <;> omega))) | ((refine Z00 rfl (Z11 (hr.mono S.below) rfl ?_ ?_ rfl) ?_; (first | omega | simp <;> omega); (first | omega | simp <;> omega))) | ((refine Z0j rfl (Z0w rfl rfl rfl) (Z23 (by omega) (by omega) (by omega)) ?_; intro w hb; replace S := S.grow hb; clear hb)) | (first | (refine Z05 rfl (Z03 (i := 0) S rfl rfl rfl rfl (dqq rfl) (dqq rfl)) ?_; clear S; intro w S) | (refine Z05 rfl (Z03 (i := 1) S rfl rfl rfl rfl (dqq rfl) (dqq rfl)) ?_; clear S; intro w S)) | (refine Z0g rfl (fun h => ?_) (fun h => ?_) <;> (fail_if_success first | have := ntT h | have := ntF h) <;> (try simp only [tdyB] at h) <;> (try (exfalso; omega))))
    all_goals
     refine ⟨⟨_, ?_, 5, _, b, ⟨rfl, rfl, rfl, rfl, rfl, trivial⟩, ?_, by omega, by omega, rfl⟩⟩
     ·omega
     ·simp only [wkN, ef] at S ⊢
      exact S
   ·have hq : q = 5 := by omega
    subst hq
    repeat' (first | refine Z0a ?_ | refine Z02 ?_ | refine Z08 ?_ | refine Z01 ?_ | refine Z0h ?_ | refine Z0k ?_ | refine Z0f ?_ | refine Z0v rfl ?_ | refine Z06 rfl ?_ | refine Z04 rfl ?_ | ((refine Z00 rfl (Z12 rfl rfl ?_ ?_) ?_; (first | omega | simp <;> omega); (first | omega | simp <;> omega))) | refine Z00 rfl (Z0z rfl rfl) ?_ | refine Z00 rfl (Z2o rfl rfl) ?_ | refine Z00 rfl (Z09 rfl) ?_ | (first | (refine Z00 rfl (Z07 (hr.mono S.below) rfl rfl ?_ ?_) ?_; (first | omega | simp <;> omega); (first | omega | simp <;> omega)) | (refine Z00 rfl (Z17 rfl rfl ?_ ?_) ?_; (first | omega | simp <;> omega); (first | omega | simp <;> omega)) | (refine Z00 rfl (Z1a rfl rfl ?_ ?_) ?_; (first | omega | simp <;> omega); (first | omega | simp <;> omega))) | ((refine Z00 rfl (Z11 (hr.mono S.below) rfl ?_ ?_ rfl) ?_; (first | omega | simp <;> omega); (first | omega | simp <;> omega))) | ((refine Z0j rfl (Z0w rfl rfl rfl) (Z23 (by omega) (by omega) (by omega)) ?_; intro w hb; replace S := S.grow hb; clear hb)) | (first | (refine Z05 rfl (Z03 (i := 0) S rfl rfl rfl rfl (dqq rfl) (dqq rfl)) ?_; clear S; intro w S) | (refine Z05 rfl (Z03 (i := 1) S rfl rfl rfl rfl (dqq rfl) (dqq rfl)) ?_; clear S; intro w S)) | (refine Z0g rfl (fun h => ?_) (fun h => ?_) <;> (fail_if_success first | have := ntT h | have := ntF h) <;> (try simp only [tdyB] at h) <;> (try (exfalso; omega))))
    all_goals
     refine ⟨⟨_, ?_, 6, _, b, ⟨rfl, rfl, rfl, rfl, rfl, trivial⟩, ?_, by omega, by omega, rfl⟩⟩
     ·omega
     ·simp only [wkN, ef] at S ⊢
      exact S
   ·have hq : q = 6 := by omega
    subst hq
    repeat' (first | refine Z0a ?_ | refine Z02 ?_ | refine Z08 ?_ | refine Z01 ?_ | refine Z0h ?_ | refine Z0k ?_ | refine Z0f ?_ | refine Z0v rfl ?_ | refine Z06 rfl ?_ | refine Z04 rfl ?_ | ((refine Z00 rfl (Z12 rfl rfl ?_ ?_) ?_; (first | omega | simp <;> omega); (first | omega | simp <;> omega))) | refine Z00 rfl (Z0z rfl rfl) ?_ | refine Z00 rfl (Z2o rfl rfl) ?_ | refine Z00 rfl (Z09 rfl) ?_ | (first | (refine Z00 rfl (Z07 (hr.mono S.below) rfl rfl ?_ ?_) ?_; (first | omega | simp <;> omega); (first | omega | simp <;> omega)) | (refine Z00 rfl (Z17 rfl rfl ?_ ?_) ?_; (first | omega | simp <;> omega); (first | omega | simp <;> omega)) | (refine Z00 rfl (Z1a rfl rfl ?_ ?_) ?_; (first | omega | simp <;> omega); (first | omega | simp <;> omega))) | ((refine Z00 rfl (Z11 (hr.mono S.below) rfl ?_ ?_ rfl) ?_; (first | omega | simp <;> omega); (first | omega | simp <;> omega))) | ((refine Z0j rfl (Z0w rfl rfl rfl) (Z23 (by omega) (by omega) (by omega)) ?_; intro w hb; replace S := S.grow hb; clear hb)) | (first | (refine Z05 rfl (Z03 (i := 0) S rfl rfl rfl rfl (dqq rfl) (dqq rfl)) ?_; clear S; intro w S) | (refine Z05 rfl (Z03 (i := 1) S rfl rfl rfl rfl (dqq rfl) (dqq rfl)) ?_; clear S; intro w S)) | (refine Z0g rfl (fun h => ?_) (fun h => ?_) <;> (fail_if_success first | have := ntT h | have := ntF h) <;> (try simp only [tdyB] at h) <;> (try (exfalso; omega))))
    all_goals
     refine ⟨⟨_, ?_, 7, _, b, ⟨rfl, rfl, rfl, rfl, rfl, trivial⟩, ?_, by omega, by omega, rfl⟩⟩
     ·omega
     ·simp only [wkN, ef] at S ⊢
      exact S
 ·repeat' (first | refine Z0a ?_ | refine Z02 ?_ | refine Z08 ?_ | refine Z01 ?_ | refine Z0s ?_ | refine Z15 ?_ | refine Z0r ?_ | refine Z1b ?_ | refine Z18 rfl ?_ | (refine Z1c ?_; refine Z1p rfl ?_) | refine Z06 rfl ?_ | refine Z04 rfl ?_ | (first | refine Z0u rfl rfl ?_ | refine Z0t rfl rfl ?_) | refine Z00 rfl (Z0z rfl rfl) ?_ | refine Z00 rfl (Z0e rfl) ?_ | (refine Z13 rfl rfl (fun h => ?_) (fun h => ?_) <;> (fail_if_success first | have := ntT h | have := ntF h) <;> (try simp only [tdyB] at h) <;> (try (exfalso; omega))) | (refine Z0g rfl (fun h => ?_) (fun h => ?_) <;> (fail_if_success first | have := ntT h | have := ntF h) <;> (try simp only [tdyB] at h) <;> (try (exfalso; omega))))
  all_goals
   have e : i = min xs.length 8 := by omega
   subst e
   exact end1 rfl rfl ⟨_, rfl, S.below, S.row (i := 0) rfl⟩
theorem or_range {x y : Nat} (hx : x < 16777216) (hy : y < 16777216) : 0 ≤ Z7j .or .i64 (x : Int) (y : Int) ∧ Z7j .or .i64 (x : Int) (y : Int) ≤ 16777215 := by
 have e : (BitVec.ofInt IntKind.i64.bits (x : Int) ||| BitVec.ofInt IntKind.i64.bits (y : Int)).toNat = x ||| y := by
  rw [BitVec.toNat_or, BitVec.ofInt_natCast, BitVec.ofInt_natCast]
  show (BitVec.ofNat 64 x).toNat ||| (BitVec.ofNat 64 y).toNat = x ||| y
  rw [BitVec.toNat_ofNat, BitVec.toNat_ofNat, Nat.mod_eq_of_lt (by omega), Nat.mod_eq_of_lt (by omega)]
 have h : x ||| y < 2 ^ 24 := Nat.or_lt_two_pow (by omega) (by omega)
 unfold Z7j
 simp only [e]
 rw [Z57 (by omega) (by omega)]
 omega
theorem Zl0 {x : Int} (h0 : 0 ≤ x) (h1 : x < 16777216) (d : Nat) (hd : d < 7) : 0 ≤ orW x (d : Int) ∧ orW x (d : Int) ≤ 16777215 := by
 obtain ⟨n, rfl⟩ := Int.eq_ofNat_of_zero_le h0
 have hs : ∃ m : Nat, m < 16777216 ∧ IntKind.i64.wrap (1 * 2 ^ (min ((d : Int)).toNat IntKind.i64.bits)) = (m : Int) := by
  match d, hd with
  | 0, _ => exact ⟨1, by decide, by decide⟩
  | 1, _ => exact ⟨2, by decide, by decide⟩
  | 2, _ => exact ⟨4, by decide, by decide⟩
  | 3, _ => exact ⟨8, by decide, by decide⟩
  | 4, _ => exact ⟨16, by decide, by decide⟩
  | 5, _ => exact ⟨32, by decide, by decide⟩
  | 6, _ => exact ⟨64, by decide, by decide⟩
 obtain ⟨m, hm, e⟩ := hs
 unfold orW
 rw [e]
 exact or_range (by omega) hm
theorem wkF_ok (K : GArr8Int) (d : Nat) (hd : d < 7) : okH (wkF K d) = true := by
 have r := Z1m (c := K.a6) (n := 16777216) (by omega)
 unfold okH wkF
 rw [decide_eq_true_eq]
 split
 ·exact Zl0 r.1 r.2 d hd
 ·omega
theorem madeC_ok (i : Int) (K : GArr8Int) (h0 : 0 ≤ i) (h8 : i < 8) : okC (Z9q i K) = true := by
 have r0 := Z1m (c := K.a0) (n := 10) (by omega)
 have r1 := Z1m (c := K.a1) (n := 4) (by omega)
 have r2 := Z1m (c := K.a2) (n := 3) (by omega)
 have r3 := Z1m (c := K.a3) (n := 200) (by omega)
 have r3' := Z1m (c := K.a3) (n := 6) (by omega)
 have r4 := Z1m (c := K.a4) (n := 1 + Z26 K.a3 6) (by omega)
 have r4' := Z1m (c := K.a4) (n := 2000) (by omega)
 have r5 := Z1m (c := K.a5) (n := 1000) (by omega)
 have r5' := Z1m (c := K.a5) (n := 300000) (by omega)
 have r7 := Z1m (c := K.a7) (n := 100000) (by omega)
 have e1 : okN (Z9q i K) = true := by unfold okN Z9q; rw [decide_eq_true_eq]; dsimp only; omega
 have e2 : okW (Z9q i K).Week = true := by
  show okW (wkN (wkF K) 7) = true
  unfold okW wkN
  have h := fun d hd => wkF_ok K d hd
  simp only [wkL, List.all_cons, List.all_nil, Bool.and_true]
  simp [h 0 (by omega), h 1 (by omega), h 2 (by omega), h 3 (by omega), h 4 (by omega), h 5 (by omega), h 6 (by omega)]
 have e3 : okS (Z9q i K).Window = true := by unfold okS Z9q; rw [decide_eq_true_eq]; dsimp only; omega
 unfold okC; rw [e1, e2, e3]; rfl
theorem Zeq (xs : List GArr8Int) (n : Nat) {i : Int} (h0 : 0 ≤ i) (hi : i < n) : nth (Zbj xs n) i = Z9q i (nth xs i) := by
 have h := Z1u (l := Zbj xs n) (i := i) h0 (by rw [Z8q]; exact hi)
 unfold Zbj at h
 rw [List.getElem?_map, List.getElem?_range (by omega)] at h
 have : Z9q ((i.toNat : Nat) : Int) (nth xs ((i.toNat : Nat) : Int)) = _ := Option.some.inj h
 rw [Int.toNat_of_nonneg h0] at this
 exact this.symm
theorem Zbk (xs : List GArr8Int) : (Zid xs).length ≤ 8 := by unfold Zid; rw [Z8q]; omega
theorem madeL_ok (xs : List GArr8Int) : Z2v (Zid xs) = true := by
 refine Zax (fun j h0 hj => ?_) (decide_eq_true (by have := Zbk xs; omega))
 have hl := Zbk xs
 unfold Zid at hj ⊢
 rw [Z8q] at hj
 have e := Zeq xs (min xs.length 8) h0 hj
 refine Zfb (by rw [e]; exact madeC_ok _ _ h0 (by omega)) ?_
 unfold Zcx
 have r := Z1m (c := (nth xs j).a0) (n := 10) (by omega)
 rw [e]
 split
 ·show -1 < 10 * j + Z26 (nth xs j).a0 10
  omega
 ·rw [Zeq xs (min xs.length 8) (i := j - 1) (by omega) (by omega)]
  have r' := Z1m (c := (nth xs (j - 1)).a0) (n := 10) (by omega)
  show 10 * (j - 1) + Z26 (nth xs (j - 1)).a0 10 < 10 * j + Z26 (nth xs j).a0 10
  omega
def Z98 (l : List GContract) (y : GArr2Int) : GSpot := ⟨if 0 < (l.length : Int) ∧ 0 < Z26 y.a0 9 then (nth l (Z26 y.a0 l.length)).ID else Z26 y.a0 100, Z26 y.a1 300000⟩
def Z9k (l : List GContract) (ys : List GArr2Int) (n : Nat) : List GSpot := (List.range n).map fun (i : Nat) => Z98 l (nth ys (i : Int))
def Zcc (l : List GContract) (ys : List GArr2Int) : List GSpot := Z9k l ys (min ys.length 24)
theorem Zbl (l : List GContract) (ys : List GArr2Int) (n : Nat) : Z9k l ys (n + 1) = Z9k l ys n ++ [Z98 l (nth ys (n : Int))] := by unfold Z9k; rw [List.range_succ, List.map_append]; rfl
theorem Zcd (l : List GContract) (ys : List GArr2Int) (n : Nat) : (Z9k l ys n).length = n := by simp [Z9k]
theorem Zce (l : List GContract) (ys : List GArr2Int) : (Zcc l ys).length ≤ 24 := by unfold Zcc; rw [Zcd]; omega
theorem spotF_ok {l : List GContract} (hl : Z2v l = true) (y : GArr2Int) : okP (Z98 l y) = true ∧ (Z98 l y).At < 300000 := by
 have r0 := Z1m (c := y.a0) (n := 100) (by omega)
 have r1 := Z1m (c := y.a1) (n := 300000) (by omega)
 refine ⟨?_, r1.2⟩
 unfold okP Z98
 rw [decide_eq_true_eq]
 dsimp only
 split
 ·rename_i h
  have r2 := Z1m (c := y.a0) (n := (l.length : Int)) h.1
  have := Zj5 (Z6g hl (Z2e r2.1 r2.2))
  omega
 ·omega
theorem Zl1 {l : List GContract} (hl : Z2v l = true) (ys : List GArr2Int) : Z3s (Zcc l ys) = true := by
 unfold Z3s
 rw [decide_eq_true (by have := Zce l ys; omega), Bool.true_and, List.all_eq_true]
 intro x hx
 unfold Zcc Z9k at hx
 obtain ⟨i, _, rfl⟩ := List.mem_map.1 hx
 exact (spotF_ok hl _).1
set_option maxHeartbeats 1000000 in
theorem Zl2 {v1 v2 : Value} {l : List GContract} {ys : List GArr2Int} {w0 : World} (hr1 : Rd Z14.ty w0 v1 l) (hr2 : Rd Zar.ty w0 v2 ys) (hy : ∀ y ∈ ys, okA2 y) (hl : l.length ≤ 1000000000) (hl2 : ys.length ≤ maxLen) :
  CallsR Tryd.prog 12 #[v1, v2] w0 (fun r w' => Z2u Z1d 63 w0 w' r (Zcc l ys)) := by
 have S := St.start w0
 have hml : maxLen ≤ 9223372036854775807 := by decide
 obtain ⟨A, c, rfl⟩ := hr1.len
 obtain ⟨A2, c2, rfl⟩ := hr2.len
 refine CallsR.mk ?_
 refine Z0l Tryd.func12 rfl (by intro _ h; first | exact nomatch h.1 | (obtain ⟨_, h, _⟩ := h; exact nomatch h)) Tryd.ntmps12 rfl ?_
 repeat' (first | refine Z0a ?_ | refine Z02 ?_ | refine Z08 ?_ | refine Z01 ?_ | refine Z0f ?_ | refine Z04 rfl ?_)
 replace S := S.nilRow Z1d 63
 refine Z1l (fun m σ w1 => ∃ (i : Nat) (p : Int) (vo : Value), Has σ [(0, .slice A l.length c), (1, .slice A2 ys.length c2), (5, vo), (6, .int .i64 p)] ∧ St w0 w1 [Z16 Z1d 63 vo (Z9k l ys i)] ∧ p = i ∧ i ≤ min ys.length 24 ∧ m = 24 - i) 24 ⟨0, _, _, ⟨rfl, rfl, rfl, rfl, trivial⟩, S, rfl, by omega, rfl⟩ ?_
 clear S
 rintro m σ w1 ⟨i, p, vo, hs, S, hp, hi1, hm⟩
 refine Z1o hs ?_
 have hol := Zcd l ys i
 by_cases hi : i < min ys.length 24
 ·obtain ⟨x0, x1⟩ := hy _ (Z2e (l := ys) (i := p) (by omega) (by omega))
  unfold inI at x0 x1
  have r9 := Z1m (c := (nth ys p).a0) (n := 9) (by omega)
  by_cases hc : 0 < (l.length : Int) ∧ 0 < Z26 (nth ys p).a0 9
  ·have rl := Z1m (c := (nth ys p).a0) (n := (l.length : Int)) hc.1
   have ef : Z98 l (nth ys p) = ⟨(nth l (Z26 (nth ys p).a0 l.length)).ID, Z26 (nth ys p).a1 300000⟩ := by unfold Z98; rw [if_pos hc]
   repeat' (first | refine Z0a ?_ | refine Z02 ?_ | refine Z08 ?_ | refine Z01 ?_ | refine Z0k ?_ | refine Z0f ?_ | refine Z4t 13 14 (by kernel_rfl) (by decide +kernel) ?_ | refine Zc0 ?_ | (refine Zdw rfl (Z1i S) (by rintro _ _ ⟨b, -, h, -⟩; exact h) ?_; rintro _ w ⟨b, rfl, -, S'⟩ w hb; replace S := S'.grow hb; clear S' hb) | (refine Z1q ?_; intro w hb; replace S := S.grow hb; clear hb) | refine Z06 rfl ?_ | refine Z0u rfl rfl ?_ | refine Z00 rfl (Z0z rfl rfl) ?_ | refine Z00 rfl (Z2o rfl rfl) ?_ | refine Z00 rfl (Z0e rfl) ?_ | (first | refine Z00 rfl (Z09 rfl) ?_ | refine Z00 rfl (Z1g rfl) ?_) | (first | (refine Z00 rfl (Z07 (hr1.mono S.below) rfl rfl ?_ ?_) ?_; (first | omega | simp <;> omega); (first | omega | simp <;> omega)) | (refine Z00 rfl (Z07 (hr2.mono S.below) rfl rfl ?_ ?_) ?_; (first | omega | simp <;> omega); (first | omega | simp <;> omega)) | (refine Z00 rfl (Z17 rfl rfl ?_ ?_) ?_; (first | omega | simp <;> omega); (first | omega | simp <;> omega))) | (first | (refine Z00 rfl (Z0i (hr1.mono S.below) rfl ?_ ?_ rfl) ?_; (first | omega | simp <;> omega); (first | omega | simp <;> omega)) | (refine Z00 rfl (Z0i (hr2.mono S.below) rfl ?_ ?_ rfl) ?_; (first | omega | simp <;> omega); (first | omega | simp <;> omega)) | refine Z00 rfl (Z0m (i := 1) S rfl rfl rfl rfl) ?_) | ((refine Z0j rfl (Z0w rfl rfl rfl) (Z23 (by omega) (by omega) (by omega)) ?_; intro w hb; replace S := S.grow hb; clear hb)) | (refine Z1e ?_; refine Z1r rfl ?_) | (refine Z9r ?_; refine Z0c rfl (fun w' hb => Z9w rfl rfl) ?_) | (refine Z0q ?_; first | (refine Z0c rfl (fun w' hb => Z07 (hr2.mono (S.grow hb).below) rfl rfl ?_ ?_) ?_; (first | omega | simp <;> omega); (first | omega | simp <;> omega)) | (refine Z0c rfl (fun w' hb => Z17 rfl rfl ?_ ?_) ?_; (first | omega | simp <;> omega); (first | omega | simp <;> omega))) | (refine Z1f ?_; first | (refine Z0c rfl (fun w' hb => Z0i (hr2.mono (S.grow hb).below) rfl ?_ ?_ rfl) ?_; (first | omega | simp <;> omega); (first | omega | simp <;> omega)) | (refine Z0c rfl (fun w' hb => Z11 (hr2.mono (S.grow hb).below) rfl ?_ ?_ rfl) ?_; (first | omega | simp <;> omega); (first | omega | simp <;> omega))) | (refine Z1v ?_; refine Z20 rfl (fun w' hb => Z0w rfl rfl rfl) (fun w' hb => Z23 (by omega) (by omega) (by omega)) ?_) | (first | (refine Z05 rfl (Z03 (i := 0) S rfl rfl rfl rfl (dqq rfl) (dqq rfl)) ?_; clear S; intro w S) | (refine Z05 rfl (Z03 (i := 1) S rfl rfl rfl rfl (dqq rfl) (dqq rfl)) ?_; clear S; intro w S)) | (refine Z13 rfl rfl (fun h => ?_) (fun h => ?_) <;> (fail_if_success first | have := ntT h | have := ntF h) <;> (try simp only [tdyB] at h) <;> (try (exfalso; omega))) | (refine Z0g rfl (fun h => ?_) (fun h => ?_) <;> (fail_if_success first | have := ntT h | have := ntF h) <;> (try simp only [tdyB] at h) <;> (try (exfalso; omega))))
   refine Z0n rfl (Z2z (D := Z1d) [Z98 l (nth ys p)] (fun y => .agg y.enc.toArray) S (by rw [ef]; rfl) rfl (fun _ => rfl) rfl (Nat.succ_pos _) (by show 1 * 2 ≤ _; decide)) ?_
   rintro _ w ⟨bl, rfl, -, hcl, S'⟩; replace S := S'; clear S'
   refine Z0n rfl (Z2t (D := Z1d) (i := 0) (b := bl) (x := Z98 l (nth ys p)) S rfl rfl rfl (Z53 hcl) rfl (by decide) (Zky _) (by omega) (by omega)) ?_
   rintro vo' w ⟨-, S'⟩; replace S := S'; clear S' hcl
   repeat' (first | refine Z02 ?_ | refine Z08 ?_ | refine Z01 ?_ | refine Z0h ?_ | refine Z06 rfl ?_ | refine Z04 rfl ?_ | ((refine Z00 rfl (Z12 rfl rfl ?_ ?_) ?_; (first | omega | simp <;> omega); (first | omega | simp <;> omega))))
   refine ⟨⟨_, ?_, i + 1, _, vo', ⟨rfl, rfl, rfl, rfl, trivial⟩, by rw [Zbl, ← hp]; exact S.keep [true], by omega, by omega, rfl⟩⟩
   omega
  ·have ef : Z98 l (nth ys p) = ⟨Z26 (nth ys p).a0 100, Z26 (nth ys p).a1 300000⟩ := by unfold Z98; rw [if_neg hc]
   repeat' (first | refine Z0a ?_ | refine Z02 ?_ | refine Z08 ?_ | refine Z01 ?_ | refine Z0k ?_ | refine Z0f ?_ | refine Z18 rfl ?_ | refine Z4t 13 14 (by kernel_rfl) (by decide +kernel) ?_ | refine Zc0 ?_ | (refine Zdw rfl (Z1i S) (by rintro _ _ ⟨b, -, h, -⟩; exact h) ?_; rintro _ w ⟨b, rfl, -, S'⟩ w hb; replace S := S'.grow hb; clear S' hb) | (refine Z1q ?_; intro w hb; replace S := S.grow hb; clear hb) | (refine Z1c ?_; refine Z1p rfl ?_) | refine Z06 rfl ?_ | (first | refine Z0u rfl rfl ?_ | refine Z0t rfl rfl ?_) | refine Z00 rfl (Z0z rfl rfl) ?_ | refine Z00 rfl (Z2o rfl rfl) ?_ | refine Z00 rfl (Z0e rfl) ?_ | (first | (refine Z00 rfl (Z07 (hr2.mono S.below) rfl rfl ?_ ?_) ?_; (first | omega | simp <;> omega); (first | omega | simp <;> omega)) | (refine Z00 rfl (Z17 rfl rfl ?_ ?_) ?_; (first | omega | simp <;> omega); (first | omega | simp <;> omega))) | (first | (refine Z00 rfl (Z0i (hr2.mono S.below) rfl ?_ ?_ rfl) ?_; (first | omega | simp <;> omega); (first | omega | simp <;> omega)) | refine Z00 rfl (Z0m (i := 1) S rfl rfl rfl rfl) ?_) | ((refine Z0j rfl (Z0w rfl rfl rfl) (Z23 (by omega) (by omega) (by omega)) ?_; intro w hb; replace S := S.grow hb; clear hb)) | (refine Z1e ?_; refine Z1r rfl ?_) | (refine Z9r ?_; refine Z0c rfl (fun w' hb => Z9w rfl rfl) ?_) | (refine Z0q ?_; first | (refine Z0c rfl (fun w' hb => Z07 (hr2.mono (S.grow hb).below) rfl rfl ?_ ?_) ?_; (first | omega | simp <;> omega); (first | omega | simp <;> omega)) | (refine Z0c rfl (fun w' hb => Z17 rfl rfl ?_ ?_) ?_; (first | omega | simp <;> omega); (first | omega | simp <;> omega))) | (refine Z1f ?_; first | (refine Z0c rfl (fun w' hb => Z0i (hr2.mono (S.grow hb).below) rfl ?_ ?_ rfl) ?_; (first | omega | simp <;> omega); (first | omega | simp <;> omega)) | (refine Z0c rfl (fun w' hb => Z11 (hr2.mono (S.grow hb).below) rfl ?_ ?_ rfl) ?_; (first | omega | simp <;> omega); (first | omega | simp <;> omega))) | (refine Z1v ?_; refine Z20 rfl (fun w' hb => Z0w rfl rfl rfl) (fun w' hb => Z23 (by omega) (by omega) (by omega)) ?_) | (first | (refine Z05 rfl (Z03 (i := 0) S rfl rfl rfl rfl (dqq rfl) (dqq rfl)) ?_; clear S; intro w S) | (refine Z05 rfl (Z03 (i := 1) S rfl rfl rfl rfl (dqq rfl) (dqq rfl)) ?_; clear S; intro w S)) | (refine Z13 rfl rfl (fun h => ?_) (fun h => ?_) <;> (fail_if_success first | have := ntT h | have := ntF h) <;> (try simp only [tdyB] at h) <;> (try (exfalso; omega))) | (refine Z0g rfl (fun h => ?_) (fun h => ?_) <;> (fail_if_success first | have := ntT h | have := ntF h) <;> (try simp only [tdyB] at h) <;> (try (exfalso; omega))))
   all_goals
    refine Z0n rfl (Z2z (D := Z1d) [Z98 l (nth ys p)] (fun y => .agg y.enc.toArray) S (by rw [ef]; rfl) rfl (fun _ => rfl) rfl (Nat.succ_pos _) (by show 1 * 2 ≤ _; decide)) ?_
    rintro _ w ⟨bl, rfl, -, hcl, S'⟩; replace S := S'; clear S'
    refine Z0n rfl (Z2t (D := Z1d) (i := 0) (b := bl) (x := Z98 l (nth ys p)) S rfl rfl rfl (Z53 hcl) rfl (by decide) (Zky _) (by omega) (by omega)) ?_
    rintro vo' w ⟨-, S'⟩; replace S := S'; clear S' hcl
    repeat' (first | refine Z02 ?_ | refine Z08 ?_ | refine Z01 ?_ | refine Z0h ?_ | refine Z06 rfl ?_ | refine Z04 rfl ?_ | ((refine Z00 rfl (Z12 rfl rfl ?_ ?_) ?_; (first | omega | simp <;> omega); (first | omega | simp <;> omega))))
    refine ⟨⟨_, ?_, i + 1, _, vo', ⟨rfl, rfl, rfl, rfl, trivial⟩, by rw [Zbl, ← hp]; exact S.keep [true], by omega, by omega, rfl⟩⟩
    omega
 ·repeat' (first | refine Z0a ?_ | refine Z02 ?_ | refine Z08 ?_ | refine Z01 ?_ | refine Z0s ?_ | refine Z15 ?_ | refine Z0r ?_ | refine Z1b ?_ | refine Z18 rfl ?_ | (refine Z1c ?_; refine Z1p rfl ?_) | refine Z06 rfl ?_ | refine Z04 rfl ?_ | (first | refine Z0u rfl rfl ?_ | refine Z0t rfl rfl ?_) | refine Z00 rfl (Z0z rfl rfl) ?_ | refine Z00 rfl (Z0e rfl) ?_ | (refine Z13 rfl rfl (fun h => ?_) (fun h => ?_) <;> (fail_if_success first | have := ntT h | have := ntF h) <;> (try simp only [tdyB] at h) <;> (try (exfalso; omega))) | (refine Z0g rfl (fun h => ?_) (fun h => ?_) <;> (fail_if_success first | have := ntT h | have := ntF h) <;> (try simp only [tdyB] at h) <;> (try (exfalso; omega))))
  all_goals
   have e : i = min ys.length 24 := by omega
   subst e
   exact end1 rfl rfl ⟨_, rfl, S.below, S.row (i := 0) rfl⟩
end Go.Proofs.YtijnbpnficcpmaaDoor
