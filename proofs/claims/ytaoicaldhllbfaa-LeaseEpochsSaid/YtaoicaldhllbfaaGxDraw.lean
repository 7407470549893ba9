/-
  A region that draws its order: a head of operations that leave known memory alone, and behind it a tail that waits for them (a literal built, a row lengthened, a store): one walk serves every order.
  The exchange of two operations is argued as in the kit's texts on drawn orders, whose small laws are used.
-/
import Derived.Test.YtaoicaldhllbfaaGxEnd
import Derived.OrdersHeld
import Derived.StillTail
import Derived.Deep.RegionHeld3
namespace Go.Gx
open Go Go.RowKit
set_option linter.unusedVariables false
set_option linter.unusedSimpArgs false

section
variable {P : Program} {ops : Array Oper} {Q : Exit → Act → World → Prop} {md : Region.Mode} {C : World → Prop} {n : Nat}

def reachG (md : Region.Mode) (ops : Array Oper) (i : Nat) : Nat → Nat → Bool
  | 0, _ => false
  | fuel + 1, d => match ops[d]? with
    | some o => o.after.any fun e => Region.binds md e && (e.on == i || reachG md ops i fuel e.on)
    | none => false
def ClosedG (md : Region.Mode) (ops : Array Oper) (listed : Array Bool) : Prop :=
  ∀ j oj, ops[j]? = some oj → listed.getD j false = true → ∀ e ∈ oj.after, Region.binds md e = true → listed.getD e.on false = true
theorem ClosedG.set {listed : Array Bool} {i : Nat} (h : ClosedG md ops listed) (hi : i ∈ Region.ready md ops listed) : ClosedG md ops (listed.setIfInBounds i true) := by
  obtain ⟨_, oi, hoi, hall⟩ := mem_ready.1 hi
  intro j oj hj hl e he hb
  by_cases hij : i = j
  · subst hij
    obtain rfl : oj = oi := Option.some.inj (hj.symm.trans hoi)
    exact getD_set_true (hall e he hb)
  · rw [getD_set_ne false hij] at hl
    exact getD_set_true (h j oj hj hl e he hb)
theorem reachG_listed {listed : Array Bool} {i : Nat} (hc : ClosedG md ops listed) : ∀ (fuel d : Nat), reachG md ops i fuel d = true → listed.getD d false = true → listed.getD i false = true
  | 0, _, h, _ => by simp [reachG] at h
  | fuel + 1, d, h, hl => by
    unfold reachG at h
    cases ho : ops[d]? with
    | none => rw [ho] at h; simp at h
    | some o =>
      rw [ho] at h
      obtain ⟨e, he, h1⟩ := Array.any_eq_true'.1 h
      simp only [Bool.and_eq_true, Bool.or_eq_true, beq_iff_eq] at h1
      have hle := hc d o ho hl e he h1.1
      rcases h1.2 with h2 | h2
      · rw [← h2]; exact hle
      · exact reachG_listed hc fuel e.on h2 hle
theorem getD_two {listed : Array Bool} {i : Nat} (h : listed.getD i true = false) : listed.getD i false = false := by
  rcases Nat.lt_or_ge i listed.size with h' | h'
  · simp [h'] at h ⊢; exact h
  · simp [Array.getElem?_eq_none h'] at h
theorem reachG_not_ready {listed : Array Bool} {i d fuel : Nat} (hc : ClosedG md ops listed) (hr : reachG md ops i fuel d = true) (hun : listed.getD i true = false) : d ∉ Region.ready md ops listed := by
  intro hd
  obtain ⟨_, o, ho, hall⟩ := mem_ready.1 hd
  have hi : listed.getD i false = true := by
    cases fuel with
    | zero => simp [reachG] at hr
    | succ n =>
      unfold reachG at hr
      rw [ho] at hr
      obtain ⟨e, he, h1⟩ := Array.any_eq_true'.1 hr
      simp only [Bool.and_eq_true, Bool.or_eq_true, beq_iff_eq] at h1
      have hle := hall e he h1.1
      rcases h1.2 with h2 | h2
      · rw [← h2]; exact hle
      · exact reachG_listed hc n e.on h2 hle
  rw [getD_two hun] at hi; cases hi

/-- The tail has begun. -/
def Began (n : Nat) (listed : Array Bool) : Prop := ∃ d, n ≤ d ∧ listed.getD d false = true
def GG (C : World → Prop) (n : Nat) (listed : Array Bool) (w w1 : World) : Prop := (Began n listed → w1 = w) ∧ (¬ Began n listed → C w1)
theorem Began.set {listed : Array Bool} {i : Nat} (hi : i < n) : Began n (listed.setIfInBounds i true) ↔ Began n listed := by
  constructor
  · rintro ⟨d, hd, h⟩; exact ⟨d, hd, by rwa [getD_set_ne false (by omega)] at h⟩
  · rintro ⟨d, hd, h⟩; exact ⟨d, hd, by rwa [getD_set_ne false (by omega)]⟩
theorem Began.now {listed : Array Bool} {i : Nat} (hi : n ≤ i) (hl : listed.getD i true = false) : Began n (listed.setIfInBounds i true) := by
  refine ⟨i, hi, ?_⟩
  rcases Nat.lt_or_ge i listed.size with h' | h'
  · simp [h']
  · simp [Array.getElem?_eq_none h'] at hl
theorem GG.set {listed : Array Bool} {i : Nat} {w w1 : World} (hi : i < n) (h : GG C n listed w w1) : GG C n (listed.setIfInBounds i true) w w1 := by
  unfold GG; rw [Began.set hi]; exact h

def wpAnyG (P : Program) (md : Region.Mode) (ops : Array Oper) (Q : Exit → Act → World → Prop) (C : World → Prop) (n : Nat) : Nat → Array Bool → Act → World → Prop
  | 0, listed, a, w => Region.ready md ops listed = [] ∧ ∀ w1, GG C n listed w w1 → Q .normal a w1
  | fuel + 1, listed, a, w =>
    (Region.ready md ops listed = [] → ∀ w1, GG C n listed w w1 → Q .normal a w1) ∧
    ∀ i ∈ Region.ready md ops listed, ∀ w1, GG C n listed w w1 → wpOp P ops Q i (fun a' w' => (i < n → ¬ Began n listed → C w') ∧ wpAnyG P md ops Q C n fuel (listed.setIfInBounds i true) a' w') a w1

theorem GG.trans {listed : Array Bool} {w w1 w2 : World} (h : GG C n listed w w1) (h2 : GG C n listed w1 w2) : GG C n listed w w2 := ⟨fun hb => (h2.1 hb).trans (h.1 hb), h2.2⟩
theorem wpAnyG_mono {fuel : Nat} {listed : Array Bool} {a : Act} {w w1 : World} (h : wpAnyG P md ops Q C n fuel listed a w) (hg : GG C n listed w w1) : wpAnyG P md ops Q C n fuel listed a w1 := by
  cases fuel with
  | zero => exact ⟨h.1, fun w2 h2 => h.2 w2 (hg.trans h2)⟩
  | succ k => exact ⟨fun h0 w2 h2 => h.1 h0 w2 (hg.trans h2), fun i hi w2 h2 => h.2 i hi w2 (hg.trans h2)⟩

theorem wpAny_of_G : ∀ (fuel : Nat) (listed : Array Bool) (a : Act) (w : World), (¬ Began n listed → C w) → wpAnyG P md ops Q C n fuel listed a w → wpAny P md ops Q fuel listed a w
  | 0, _, _, w, hc, h => ⟨h.1, h.2 w ⟨fun _ => rfl, hc⟩⟩
  | fuel + 1, listed, _, w, hc, h => ⟨fun h0 => h.1 h0 w ⟨fun _ => rfl, hc⟩, fun i hi => wpOp_mono (fun a' w' h' => wpAny_of_G fuel _ a' w' (fun hb => by
      by_cases hin : i < n
      · exact h'.1 hin (fun h0 => hb ((Began.set hin).2 h0))
      · exact absurd (Began.now (by omega) (mem_ready.1 hi).1) hb) h'.2) (h.2 i hi w ⟨fun _ => rfl, hc⟩)⟩

/-- One operation 'oj', apart from 'oi', which is quiet. -/
theorem wpOp_putQ {j : Nat} {oi oj : Oper} {v : Value} (hj : ops[j]? = some oj) (hap : oi.apart ops oj = true)
    (hsi : ∀ cs b, oi.op ≠ .select cs b) (hsj : ∀ cs b, oj.op ≠ .select cs b)
    (hQ : ∀ c a w, Q (.panic c) (a.put oi.dst v) w → Q (.panic c) a w) {K : Act → World → Prop} {a : Act} {w : World}
    (hy : YieldsIn P ops C oi v a) (h : wpOp P ops Q j K (a.put oi.dst v) w) :
    wpOp P ops Q j (fun a' w' => YieldsIn P ops C oi v a' ∧ K (a'.put oi.dst v) w') a w := by
  obtain ⟨h1, h2, h3⟩ := Oper.apart_spec hap
  have keep : ∀ (a : Act), YieldsIn P ops C oi v a → ∀ u, YieldsIn P ops C oi v (a.put oj.dst u) := fun a hy u =>
    hy.of_same (execOp_put oi hsi a oj.dst u h3) (wanted_put oi a oj.dst u h3)
  have keepD : ∀ d, YieldsIn P ops C oi v { a with defers := d :: a.defers } := fun d => hy.of_same rfl rfl
  unfold wpOp at *
  simp only [hj] at *
  rw [wanted_put oj a oi.dst v h1] at h
  split
  · rename_i hw
    simp only [hw, if_true] at h
    rcases h with h | ⟨hasks, hlets⟩
    case inr => exact .inr ⟨by unfold Oper.asks at *; rw [execOp_put oj hsj a oi.dst v h1] at hasks; exact hasks, hlets⟩
    refine .inl ?_
    unfold Oper.wp at *
    rw [execOp_put oj hsj a oi.dst v h1] at h
    generalize (execOp a.eval oj).run P w = r at *
    cases r with
    | ok n w' =>
      cases n <;> simp only [Oper.upon] at h ⊢
      case value u => exact ⟨keep a hy u, by rw [← Act.put_comm a v u h2]; exact h⟩
      case skip => exact ⟨keep a hy _, by rw [← Act.put_comm a v undef h2]; exact h⟩
      case defer d =>
        refine ⟨keep _ (keepD d) _, ?_⟩
        rw [← Act.put_comm _ v undef h2, ← Act.put_defers]
        exact h
      case enter f args =>
        refine Calls.mono h fun e w'' he => ?_
        cases e with
        | returned u => exact ⟨keep a hy u, by rw [← Act.put_comm a v u h2]; exact he⟩
        | panicked c => exact hQ _ _ _ he
        | outgrown => exact he
      case row row args => exact Rows.mono h fun u w'' he => ⟨keep a hy u, by rw [← Act.put_comm a v u h2]; exact he⟩
    | halt x w' =>
      cases x <;> simp only [Oper.upon] at h ⊢
      case panic u => exact hQ _ _ _ h
  · rename_i hw
    simp only [hw] at h
    exact ⟨keep a hy _, by rw [← Act.put_comm a v undef h2]; exact h⟩

theorem YieldsIn.wpOp {i : Nat} {o : Oper} {v : Value} {a : Act} (hi : ops[i]? = some o) (hy : YieldsIn P ops C o v a) {K : Act → World → Prop} {w : World} (hC : C w) (h : ∀ w', C w' → K (a.put o.dst v) w') : wpOp P ops Q i K a w := by
  unfold Go.wpOp
  simp only [hi]
  rcases hy with ⟨hw, hv⟩ | ⟨hw, rfl⟩
  · simp only [hw, if_true]
    exact .inl (Oper.wp_of_quiet (C := C) (K := fun a' => a' = a.put o.dst v) hC (fun a' w' hw' e => by rw [e]; exact h w' hw') ⟨v, hv, rfl⟩)
  · simp only [hw, Bool.false_eq_true, if_false]; exact h w hC

theorem unlisted_hyp {listed : Array Bool} {i j : Nat} {oi : Oper} (hfree : ∀ j oj, ops[j]? = some oj → j ≠ i → listed.getD j true = false → (∀ e ∈ oj.after, Region.binds md e = true → e.on ≠ i) → oi.apart ops oj = true) (hjun : listed.getD j true = false) :
    ∀ k ok, ops[k]? = some ok → k ≠ i → (listed.setIfInBounds j true).getD k true = false → (∀ e ∈ ok.after, Region.binds md e = true → e.on ≠ i) → oi.apart ops ok = true := fun k ok hk hki hun hno => by
  refine hfree k ok hk hki ?_ hno
  by_cases hjk : j = k
  · subst hjk; exact hjun
  · rw [getD_set_ne true hjk] at hun; exact hun

/-- What yields in whatever world is taken first. -/
theorem firstP {i : Nat} {oi : Oper} {v : Value} (hi : ops[i]? = some oi) (hsel : ∀ (j : Nat) (o : Oper) cs b, ops[j]? = some o → o.op ≠ .select cs b)
    (hQ : ∀ c a w, Q (.panic c) (a.put oi.dst v) w → Q (.panic c) a w) (hin : i < n) :
    ∀ (fuel : Nat) (listed : Array Bool) (a : Act) (w : World),
      (∀ j oj, ops[j]? = some oj → j ≠ i → listed.getD j true = false → (∀ e ∈ oj.after, Region.binds md e = true → e.on ≠ i) → oi.apart ops oj = true) →
      i ∈ Region.ready md ops listed → Yields P ops oi v a →
      wpAnyG P md ops Q C n fuel (listed.setIfInBounds i true) (a.put oi.dst v) w → wpAnyG P md ops Q C n (fuel + 1) listed a w := by
  intro fuel
  induction fuel with
  | zero =>
    intro listed a w _ hr hy H
    refine ⟨fun h => (by rw [h] at hr; cases hr), fun j hj w1 hg => ?_⟩
    by_cases hji : j = i
    · subst hji; exact hy.wpOp hi ⟨fun _ hb => hg.2 hb, wpAnyG_mono H (hg.set hin)⟩
    · have := ready_mono hj hji
      rw [H.1] at this
      cases this
  | succ fuel ih =>
    intro listed a w hfree hr hy H
    refine ⟨fun h => (by rw [h] at hr; cases hr), fun j hj w1 hg => ?_⟩
    by_cases hji : j = i
    · subst hji; exact hy.wpOp hi ⟨fun _ hb => hg.2 hb, wpAnyG_mono H (hg.set hin)⟩
    · have h1 := H.2 j (ready_mono hj hji) w1 (hg.set hin)
      obtain ⟨hjun, oj, hoj, hall⟩ := mem_ready.1 hj
      have hiun := (mem_ready.1 hr).1
      have hnot : ∀ e ∈ oj.after, Region.binds md e = true → e.on ≠ i := fun e he hb heq => by
        have h1 := hall e he hb
        rw [heq, getD_two hiun] at h1
        cases h1
      have h2 := wpOp_put hoj (hfree j oj hoj hji hjun hnot) (fun cs b => hsel i oi cs b hi) (fun cs b => hsel j oj cs b hoj) hQ hy h1
      refine wpOp_mono (fun a' w' h3 => ⟨fun hjn hb => h3.2.1 hjn (fun h => hb ((Began.set hin).1 h)), ih (listed.setIfInBounds j true) a' w' (unlisted_hyp hfree hjun) (ready_mono hr (Ne.symm hji)) h3.1 ?_⟩) h2
      rw [Array.setIfInBounds_comm _ _ hji]
      exact h3.2.2

/-- What is quiet, and what the whole tail waits for, is taken first. -/
theorem firstQ {i : Nat} {oi : Oper} {v : Value} (hi : ops[i]? = some oi) (hsel : ∀ (j : Nat) (o : Oper) cs b, ops[j]? = some o → o.op ≠ .select cs b)
    (hQ : ∀ c a w, Q (.panic c) (a.put oi.dst v) w → Q (.panic c) a w) (hin : i < n) (hd : ∀ d, n ≤ d → d < ops.size → reachG md ops i ops.size d = true) :
    ∀ (fuel : Nat) (listed : Array Bool) (a : Act) (w : World),
      (∀ j oj, ops[j]? = some oj → j ≠ i → listed.getD j true = false → (∀ e ∈ oj.after, Region.binds md e = true → e.on ≠ i) → oi.apart ops oj = true) →
      ClosedG md ops listed → ¬ Began n listed → i ∈ Region.ready md ops listed → YieldsIn P ops C oi v a →
      wpAnyG P md ops Q C n fuel (listed.setIfInBounds i true) (a.put oi.dst v) w → wpAnyG P md ops Q C n (fuel + 1) listed a w := by
  intro fuel
  induction fuel with
  | zero =>
    intro listed a w _ hc hb hr hy H
    refine ⟨fun h => (by rw [h] at hr; cases hr), fun j hj w1 hg => ?_⟩
    by_cases hji : j = i
    · subst hji
      exact YieldsIn.wpOp hi hy (hg.2 hb) fun w' hw' => ⟨fun _ _ => hw', wpAnyG_mono H ⟨fun h => absurd ((Began.set hin).1 h) hb, fun _ => hw'⟩⟩
    · have := ready_mono hj hji
      rw [H.1] at this
      cases this
  | succ fuel ih =>
    intro listed a w hfree hc hb hr hy H
    refine ⟨fun h => (by rw [h] at hr; cases hr), fun j hj w1 hg => ?_⟩
    by_cases hji : j = i
    · subst hji
      exact YieldsIn.wpOp hi hy (hg.2 hb) fun w' hw' => ⟨fun _ _ => hw', wpAnyG_mono H ⟨fun h => absurd ((Began.set hin).1 h) hb, fun _ => hw'⟩⟩
    · have h1 := H.2 j (ready_mono hj hji) w1 (hg.set hin)
      obtain ⟨hjun, oj, hoj, hall⟩ := mem_ready.1 hj
      have hiun := (mem_ready.1 hr).1
      have hjn : j < n := by
        rcases Nat.lt_or_ge j n with h | h
        · exact h
        · exact absurd hj (reachG_not_ready hc (hd j h (Array.getElem?_eq_some_iff.1 hoj).1) hiun)
      have hnot : ∀ e ∈ oj.after, Region.binds md e = true → e.on ≠ i := fun e he hb heq => by
        have h1 := hall e he hb
        rw [heq, getD_two hiun] at h1
        cases h1
      have h2 := wpOp_putQ hoj (hfree j oj hoj hji hjun hnot) (fun cs b => hsel i oi cs b hi) (fun cs b => hsel j oj cs b hoj) hQ hy h1
      refine wpOp_mono (fun a' w' h3 => ⟨fun hjn hb => h3.2.1 hjn (fun h => hb ((Began.set hin).1 h)), ih (listed.setIfInBounds j true) a' w' (unlisted_hyp hfree hjun) (hc.set hj) (fun h => hb ((Began.set hjn).1 h)) (ready_mono hr (Ne.symm hji)) h3.1 ?_⟩) h2
      rw [Array.setIfInBounds_comm _ _ hji]
      exact h3.2.2

/-! ### The whole region -/
def isPure (o : Oper) : Bool := match o.op with
  | .move _ => true
  | .assign _ => true
  | _ => false
def headG (md : Region.Mode) (ops : Array Oper) (n : Nat) : Nat → Nat → Array Bool → Bool
  | 0, k, listed => Region.seqB md ops (ops.size - n) k listed
  | f + 1, k, listed => (Region.ready md ops listed).contains k && Region.free md ops listed k && ((ops[k]?).any isPure || (List.range ops.size).all fun d => decide (d < n) || reachG md ops k ops.size d) && headG md ops n f (k + 1) (listed.setIfInBounds k true)
def tailG (md : Region.Mode) (ops : Array Oper) (n : Nat) : Bool := Region.noSelect ops && decide (n < ops.size) && headG md ops n n 0 (Array.replicate ops.size false)

theorem seqG : ∀ (l : List Oper) (k : Nat) (listed : Array Bool) (a : Act) (w : World), n ≤ k → (∀ j, l[j]? = ops[k + j]?) →
    Region.seqB md ops l.length k listed = true → (∀ w1, GG C n listed w w1 → wpList P ops Q l a w1) → wpAnyG P md ops Q C n l.length listed a w
  | [], _, _, _, _, _, _, hB, h => ⟨by simpa [Region.seqB] using hB, h⟩
  | o :: l, k, listed, a, w, hk, hl, hB, h => by
    have h0 : ops[k]? = some o := by simpa using (hl 0).symm
    simp only [List.length_cons, Region.seqB, Bool.and_eq_true, decide_eq_true_eq] at hB
    refine ⟨fun h1 => (by rw [hB.1] at h1; cases h1), fun i hi w1 hg => ?_⟩
    have hun := (mem_ready.1 hi).1
    rw [hB.1] at hi
    have hik : i = k := by simpa using hi
    subst hik
    have hw : wpOp P ops Q i (wpList P ops Q l) a w1 := by unfold wpOp; simp only [h0]; exact h w1 hg
    exact wpOp_mono (fun a' w' h' => ⟨fun hlt => absurd hlt (by omega), seqG l (i + 1) _ a' w' (by omega) (fun j => by have := hl (j + 1); simpa [Nat.add_assoc, Nat.add_comm 1 j] using this) hB.2 (fun w2 hg2 => by rw [hg2.1 (Began.now hk hun)]; exact h')⟩) hw

theorem pure_yields {o : Oper} {v : Value} {a : Act} (hp : isPure o = true) (hC : ∃ w, C w) (hy : YieldsIn P ops C o v a) : Yields P ops o v a := by
  rcases hy with ⟨hw, h⟩ | h
  · refine .inl ⟨hw, fun w => ?_⟩
    obtain ⟨w1, hw1⟩ := hC
    have h1 := h w1 hw1
    unfold Oper.quietAt at h1
    obtain ⟨dst, op, ty, pos, af, g⟩ := o
    cases op <;> simp [isPure] at hp
    all_goals (simp only [execOp] at h1 ⊢; have e := h1.2; rw [← e]; rfl)
  · exact .inr h

theorem headG_lex (hsel : Region.noSelect ops = true) (hC : ∃ w, C w) (hQ : ∀ c a w, ¬ Q (.panic c) a w) (T : List Oper) (hT : ∀ j, T[j]? = ops[n + j]?) (hTl : T.length = ops.size - n) :
    ∀ (l : List Oper) (k : Nat) (listed : Array Bool) (a : Act) (w : World), (∀ j, j < l.length → l[j]? = ops[k + j]?) → k + l.length = n → ClosedG md ops listed → ¬ Began n listed →
    headG md ops n l.length k listed = true → wpQuiet P ops C (fun a' => ∀ w1, C w1 → wpList P ops Q T a' w1) l a → wpAnyG P md ops Q C n (l.length + T.length) listed a w
  | [], k, listed, a, w, _, hk, _, hb, hB, h => by
    have hk : k = n := by simpa using hk
    subst hk
    have := seqG (md := md) (C := C) (n := k) T k listed a w (Nat.le_refl _) hT (by rw [hTl]; simpa [headG] using hB) (fun w1 hg => h w1 (hg.2 hb))
    simpa using this
  | o :: l, k, listed, a, w, hl, hk, hc, hb, hB, h => by
    have h0 : ops[k]? = some o := by simpa using (hl 0 (by simp)).symm
    simp only [List.length_cons, headG, Bool.and_eq_true] at hB
    obtain ⟨⟨⟨hr, hf⟩, hpd⟩, hB'⟩ := hB
    have hkn : k < n := by simp only [List.length_cons] at hk; omega
    have hr' : k ∈ Region.ready md ops listed := by simpa using hr
    have hst : qOp P ops C k (wpQuiet P ops C (fun a' => ∀ w1, C w1 → wpList P ops Q T a' w1) l) a := by unfold qOp; simp only [h0]; exact h
    obtain ⟨v, hy, hK⟩ := yieldsIn_of_qOp h0 hst
    have hrec := headG_lex hsel hC hQ T hT hTl l (k + 1) _ (a.put o.dst v) w (fun j hj => by have := hl (j + 1) (by simp; omega); simpa [Nat.add_assoc, Nat.add_comm 1 j] using this) (by simp only [List.length_cons] at hk; omega) (hc.set hr') (fun h => hb ((Began.set hkn).1 h)) hB' hK
    have e : (o :: l).length + T.length = l.length + T.length + 1 := by simp; omega
    rw [e]
    by_cases hp : isPure o = true
    · exact firstP h0 (Region.noSelect_spec hsel) (fun c a w h => absurd h (hQ _ _ _)) hkn _ listed a w (Region.free_spec h0 hf) hr' (pure_yields hp hC hy) hrec
    · have hd : ∀ d, n ≤ d → d < ops.size → reachG md ops k ops.size d = true := fun d h1 h2 => by
        rw [h0] at hpd
        simp only [Option.any_some, hp, Bool.false_or] at hpd
        have h3 := List.all_eq_true.1 hpd d (List.mem_range.2 h2)
        have h4 : decide (d < n) = false := by simp; omega
        rw [h4, Bool.false_or] at h3
        exact h3
      exact firstQ h0 (Region.noSelect_spec hsel) (fun c a w h => absurd h (hQ _ _ _)) hkn hd _ listed a w (Region.free_spec h0 hf) hc hb hr' hy hrec

theorem region_tail {id : Nat} {a : Act} {w : World} {l : List Oper} (n : Nat) (hm : P.follows .mixedOrders = true) (hB : tailG .any l.toArray n = true) (hC : C { w with drawn := w.drawn + 1 })
    (h : wpQuiet P l.toArray C (fun a' => ∀ w1, C w1 → wpList P l.toArray (NoPanic Q) (l.drop n) a' w1) (l.take n) a) : (Code.region id l.toArray true).wp P Q a w := by
  simp only [tailG, Bool.and_eq_true, decide_eq_true_eq] at hB
  obtain ⟨⟨hsel, hn⟩, hB⟩ := hB
  have hn' : n < l.length := by simpa using hn
  have htl : (l.take n).length = n := by simp; omega
  refine wp_region_noPanic (wp_region_any hm (wpAny_of_G (C := C) (n := n) _ _ _ _ (fun _ => hC) ?_))
  have key := headG_lex (P := P) (ops := l.toArray) (Q := NoPanic Q) (md := .any) (C := C) (n := n) hsel ⟨_, hC⟩ (fun c a w h => by simp [NoPanic] at h) (l.drop n) (fun j => by simp [List.getElem?_drop]) (by simp) (l.take n) 0 (Array.replicate l.toArray.size false) a { w with drawn := w.drawn + 1 }
    (fun j hj => by have : j < n := by rw [htl] at hj; exact hj
                    simp [this]) (by simpa using htl) (fun j oj _ hl => by rw [getD_replicate_false] at hl; cases hl) (fun ⟨d, _, hd⟩ => by rw [getD_replicate_false] at hd; cases hd) (by rw [htl]; exact hB) h
  have e : (l.take n).length + (l.drop n).length = l.toArray.size := by simp; omega
  rw [e] at key
  exact key
end

/-- No panic is handed on. -/
def calm (Q : Post) : Post := fun e σ w => match e with
  | .panic _ => False
  | e => Q e σ w
theorem WP_drawTail {P : Program} {n : Nat} {Q : Post} {σ : Nat → Value} {w : World} {id : Nat} {l : List Oper} (k : Nat) (hm : P.follows .mixedOrders = true) (hB : tailG .any l.toArray k = true)
    (h : ql P n l.toArray (Below w.heap.size w) (fun σ' => ∀ w', Below w.heap.size w w' → wl P n l.toArray (calm Q) (l.drop k) σ' w') (l.take k) σ) : WP P n (.region id l.toArray true) Q σ w := by
  refine ⟨region_tail (C := Below w.heap.size w) k hm hB ⟨rfl, rfl, rfl, Nat.le_refl _, fun _ _ => rfl⟩ ?_⟩
  have conv : ∀ (l' : List Oper) (a : Act) (w1 : World), wpList P l.toArray (lift n (calm Q)) l' a w1 → wpList P l.toArray (NoPanic (lift n Q)) l' a w1 := by
    have hq : lift n (calm Q) = NoPanic (lift n Q) := by
      funext e a w
      cases e <;> simp [lift, calm, NoPanic]
    intro l' a w1 h; rwa [hq] at h
  have h' : wpQuiet P l.toArray (Below w.heap.size w) (fun a => ∃ σ', a = Fr n σ' ∧ ∀ w', Below w.heap.size w w' → wl P n l.toArray (calm Q) (l.drop k) σ' w') (l.take k) (Fr n σ) := h.out
  have mono : ∀ (l' : List Oper) (a : Act), wpQuiet P l.toArray (Below w.heap.size w) (fun a => ∃ σ', a = Fr n σ' ∧ ∀ w', Below w.heap.size w w' → wl P n l.toArray (calm Q) (l.drop k) σ' w') l' a →
      wpQuiet P l.toArray (Below w.heap.size w) (fun a' => ∀ w1, Below w.heap.size w w1 → wpList P l.toArray (NoPanic (lift n Q)) (l.drop k) a' w1) l' a := by
    intro l'
    induction l' with
    | nil => rintro a ⟨σ', rfl, hq⟩ w' hw'; exact conv _ _ _ (hq w' hw').out
    | cons o r ih =>
      intro a ha
      unfold wpQuiet at ha ⊢
      split
      · rename_i hw; rw [if_pos hw] at ha; exact Oper.quiet_mono (fun a => ih a) ha
      · rename_i hw; rw [if_neg hw] at ha; exact ih _ ha
  exact mono _ _ h'
theorem calm_normal {Q : Post} {σ : Nat → Value} {w : World} (h : Q .normal σ w) : calm Q .normal σ w := h

/-- What a call has made and hands back is the caller's own from there on. -/
theorem St.join {w0 w w' : World} {os os' : List Ob} (S : St w0 w os) (S' : St w w' os') : St w0 w' (os ++ os') := by
  have G := S.grow S'.below
  have hle : w0.heap.size ≤ w.heap.size := S.below.size
  refine ⟨G.below, fun x hx => ?_, ?_⟩
  · rcases List.mem_append.1 hx with hx | hx
    · exact G.ok x hx
    · have ho := S'.ok x hx
      cases x with
      | var b T cs => exact ⟨Nat.le_trans hle ho.1, ho.2⟩
      | row v T sz n xs =>
        obtain ⟨h1, h2⟩ := ho
        refine ⟨h1, ?_⟩
        rcases h2 with h2 | ⟨g, cap, cur, hv, hg, r⟩
        · exact .inl h2
        · exact .inr ⟨g, cap, cur, hv, Nat.le_trans hle hg, r⟩
  · refine List.pairwise_append.2 ⟨G.apart, S'.apart, fun a ha b hb => ?_⟩
    cases ha' : a.blk with
    | none => exact .inl rfl
    | some k =>
      refine .inr fun e => ?_
      have h1 := ((S.ok a ha).lt k ha').2
      have h2 := ((S'.ok b hb).lt k e.symm).1
      omega
theorem fl_one {α : Type} {D : Flat α} {x : α} {w : World} {a : Addr} (h : CellsAt w a (fl D [x])) : CellsAt w a (D.enc x) := by simpa [fl] using h
/-- Some of the objects are kept. -/
def keepL : List Bool → List Ob → List Ob
  | true :: m, o :: os => o :: keepL m os
  | false :: m, _ :: os => keepL m os
  | _, _ => []
theorem keepL_sub : ∀ (m : List Bool) (os : List Ob), (keepL m os).Sublist os
  | [], os => by simp [keepL]
  | true :: m, [] => by simp [keepL]
  | false :: m, [] => by simp [keepL]
  | true :: m, o :: os => List.Sublist.cons_cons o (keepL_sub m os)
  | false :: m, o :: os => List.Sublist.cons o (keepL_sub m os)
theorem St.keep {w0 w : World} {os : List Ob} (S : St w0 w os) (m : List Bool) : St w0 w (keepL m os) := S.sub (keepL_sub m os)
end Go.Gx
