/-
  A region that draws its order: a head of operations that leave known memory alone, and behind it a tail that waits for them (a literal built, a row lengthened, a store): one walk serves every order.
  The exchange of two operations is argued as in the kit's texts on drawn orders, whose small laws are used.
-/
import Derived.Test.YteplelijhkmbkaaDoorGxEnd
import Derived.OrdersHeld
import Derived.StillTail
import Derived.Deep.RegionHeld3
namespace Go.Gx
open Go Go.RowKit
set_option linter.unusedVariables false
set_option linter.unusedSimpArgs false

section
variable {P : Program} {ops : Array Oper} {Q : Exit → Act → World → Prop} {md : Region.Mode} {n : Nat}

def reachG (md : Region.Mode) (ops : Array Oper) (i : Nat) : Nat → Nat → Bool
  | 0, _ => false
  | fuel + 1, d => match ops[d]? with
    | some o => o.after.any fun e => Region.binds md e && (e.on == i || reachG md ops i fuel e.on)
    | none => false
def ClosedG (md : Region.Mode) (ops : Array Oper) (listed : Array Bool) : Prop :=
  ∀ j oj, ops[j]? = some oj → listed.getD j false = true → ∀ e ∈ oj.after, Region.binds md e = true → listed.getD e.on false = true
theorem ClosedG.set {listed : Array Bool} {i : Nat} (h : ClosedG md ops listed) (hi : i ∈ Region.ready md ops listed) : ClosedG md ops (listed.setIfInBounds i true) := by
  obtain ⟨_, oi, hoi, hall⟩ := mem_ready.1 hi
  intro j oj hj hl e he hb
  by_cases hij : i = j
  · subst hij
    obtain rfl : oj = oi := Option.some.inj (hj.symm.trans hoi)
    exact getD_set_true (hall e he hb)
  · rw [getD_set_ne false hij] at hl
    exact getD_set_true (h j oj hj hl e he hb)
theorem reachG_listed {listed : Array Bool} {i : Nat} (hc : ClosedG md ops listed) : ∀ (fuel d : Nat), reachG md ops i fuel d = true → listed.getD d false = true → listed.getD i false = true
  | 0, _, h, _ => by simp [reachG] at h
  | fuel + 1, d, h, hl => by
    unfold reachG at h
    cases ho : ops[d]? with
    | none => rw [ho] at h; simp at h
    | some o =>
      rw [ho] at h
      obtain ⟨e, he, h1⟩ := Array.any_eq_true'.1 h
      simp only [Bool.and_eq_true, Bool.or_eq_true, beq_iff_eq] at h1
      have hle := hc d o ho hl e he h1.1
      rcases h1.2 with h2 | h2
      · rw [← h2]; exact hle
      · exact reachG_listed hc fuel e.on h2 hle
theorem getD_two {listed : Array Bool} {i : Nat} (h : listed.getD i true = false) : listed.getD i false = false := by
  rcases Nat.lt_or_ge i listed.size with h' | h'
  · simp [h'] at h ⊢; exact h
  · simp [Array.getElem?_eq_none h'] at h
theorem reachG_not_ready {listed : Array Bool} {i d fuel : Nat} (hc : ClosedG md ops listed) (hr : reachG md ops i fuel d = true) (hun : listed.getD i true = false) : d ∉ Region.ready md ops listed := by
  intro hd
  obtain ⟨_, o, ho, hall⟩ := mem_ready.1 hd
  have hi : listed.getD i false = true := by
    cases fuel with
    | zero => simp [reachG] at hr
    | succ n =>
      unfold reachG at hr
      rw [ho] at hr
      obtain ⟨e, he, h1⟩ := Array.any_eq_true'.1 hr
      simp only [Bool.and_eq_true, Bool.or_eq_true, beq_iff_eq] at h1
      have hle := hall e he h1.1
      rcases h1.2 with h2 | h2
      · rw [← h2]; exact hle
      · exact reachG_listed hc n e.on h2 hle
  rw [getD_two hun] at hi; cases hi

/-- The tail has begun. -/
def Began (n : Nat) (listed : Array Bool) : Prop := ∃ d, n ≤ d ∧ listed.getD d false = true
abbrev Gw (w w1 : World) : Prop := Below w.heap.size w w1
theorem Gw.refl (w : World) : Gw w w := Below.refl _ _
theorem Gw.trans {w w1 w2 : World} (h : Gw w w1) (h2 : Gw w1 w2) : Gw w w2 := Below.trans h (h2.mono h.size)
def GG (n : Nat) (listed : Array Bool) (w w1 : World) : Prop := (Began n listed → w1 = w) ∧ (¬ Began n listed → Gw w w1)
theorem Began.set {listed : Array Bool} {i : Nat} (hi : i < n) : Began n (listed.setIfInBounds i true) ↔ Began n listed := by
  constructor
  · rintro ⟨d, hd, h⟩; exact ⟨d, hd, by rwa [getD_set_ne false (by omega)] at h⟩
  · rintro ⟨d, hd, h⟩; exact ⟨d, hd, by rwa [getD_set_ne false (by omega)]⟩
theorem Began.now {listed : Array Bool} {i : Nat} (hi : n ≤ i) (hl : listed.getD i true = false) : Began n (listed.setIfInBounds i true) := by
  refine ⟨i, hi, ?_⟩
  rcases Nat.lt_or_ge i listed.size with h' | h'
  · simp [h']
  · simp [Array.getElem?_eq_none h'] at hl
theorem GG.set {listed : Array Bool} {i : Nat} {w w1 : World} (hi : i < n) (h : GG n listed w w1) : GG n (listed.setIfInBounds i true) w w1 := by
  unfold GG; rw [Began.set hi]; exact h

def wpAnyG (P : Program) (md : Region.Mode) (ops : Array Oper) (Q : Exit → Act → World → Prop) (n : Nat) : Nat → Array Bool → Act → World → Prop
  | 0, listed, a, w => Region.ready md ops listed = [] ∧ ∀ w1, GG n listed w w1 → Q .normal a w1
  | fuel + 1, listed, a, w =>
    (Region.ready md ops listed = [] → ∀ w1, GG n listed w w1 → Q .normal a w1) ∧
    ∀ i ∈ Region.ready md ops listed, ∀ w1, GG n listed w w1 → sOp P ops Q i (fun a' w' => (i < n → ¬ Began n listed → Gw w1 w') ∧ wpAnyG P md ops Q n fuel (listed.setIfInBounds i true) a' w') a w1

theorem GG.refl {listed : Array Bool} {w : World} : GG n listed w w := ⟨fun _ => rfl, fun _ => Gw.refl w⟩
theorem GG.trans {listed : Array Bool} {w w1 w2 : World} (h : GG n listed w w1) (h2 : GG n listed w1 w2) : GG n listed w w2 := ⟨fun hb => (h2.1 hb).trans (h.1 hb), fun hb => (h.2 hb).trans (h2.2 hb)⟩
theorem wpAnyG_mono {fuel : Nat} {listed : Array Bool} {a : Act} {w w1 : World} (h : wpAnyG P md ops Q n fuel listed a w) (hg : GG n listed w w1) : wpAnyG P md ops Q n fuel listed a w1 := by
  cases fuel with
  | zero => exact ⟨h.1, fun w2 h2 => h.2 w2 (hg.trans h2)⟩
  | succ k => exact ⟨fun h0 w2 h2 => h.1 h0 w2 (hg.trans h2), fun i hi w2 h2 => h.2 i hi w2 (hg.trans h2)⟩

theorem wpAny_of_G : ∀ (fuel : Nat) (listed : Array Bool) (a : Act) (w : World), wpAnyG P md ops Q n fuel listed a w → sAny P md ops Q fuel listed a w
  | 0, _, _, w, h => ⟨h.1, h.2 w GG.refl⟩
  | fuel + 1, listed, _, w, h => ⟨fun h0 => h.1 h0 w GG.refl, fun i hi => sOp_mono (fun a' w' h' => wpAny_of_G fuel _ a' w' h'.2) (h.2 i hi w GG.refl)⟩

/-- In state 'a' and in every world grown out of w, 'o' leaves 'v', and a world grown out of the one it got. -/
def YieldsG (P : Program) (ops : Array Oper) (w : World) (o : Oper) (v : Value) (a : Act) : Prop :=
  (Region.wanted o (yielded ops a.tmps) = true ∧ ∀ w1, Gw w w1 → quietG P o a w1 v) ∨ (Region.wanted o (yielded ops a.tmps) = false ∧ v = undef)
theorem YieldsG.mono {w w' : World} {o : Oper} {v : Value} {a : Act} (h : YieldsG P ops w o v a) (hg : Gw w w') : YieldsG P ops w' o v a := h.imp (fun ⟨hw, h⟩ => ⟨hw, fun w1 h1 => h w1 (hg.trans h1)⟩) id
theorem YieldsG.of_same {w : World} {o : Oper} {v : Value} {a a' : Act} (hy : YieldsG P ops w o v a) (he : execOp a'.eval o = execOp a.eval o)
    (hw : Region.wanted o (yielded ops a'.tmps) = Region.wanted o (yielded ops a.tmps)) : YieldsG P ops w o v a' := by
  unfold YieldsG quietG at *
  rw [he, hw]
  exact hy

/-- One operation 'oj', apart from 'oi', which is quiet. -/
theorem sOp_putQ {j : Nat} {oi oj : Oper} {v : Value} (hj : ops[j]? = some oj) (hap : oi.apart ops oj = true)
    (hsi : ∀ cs b, oi.op ≠ .select cs b) (hsj : ∀ cs b, oj.op ≠ .select cs b)
    (hQ : ∀ c a w, Q (.panic c) (a.put oi.dst v) w → Q (.panic c) a w) {K : Act → World → Prop} {a : Act} {w W : World}
    (hy : YieldsG P ops W oi v a) (h : sOp P ops Q j K (a.put oi.dst v) w) :
    sOp P ops Q j (fun a' w' => YieldsG P ops W oi v a' ∧ K (a'.put oi.dst v) w') a w := by
  obtain ⟨h1, h2, h3⟩ := Oper.apart_spec hap
  have keep : ∀ (a : Act), YieldsG P ops W oi v a → ∀ u, YieldsG P ops W oi v (a.put oj.dst u) := fun a hy u =>
    hy.of_same (execOp_put oi hsi a oj.dst u h3) (wanted_put oi a oj.dst u h3)
  have keepD : ∀ d, YieldsG P ops W oi v { a with defers := d :: a.defers } := fun d => hy.of_same rfl rfl
  unfold sOp at *
  simp only [hj] at *
  rw [wanted_put oj a oi.dst v h1] at h
  split
  · rename_i hw
    simp only [hw, if_true] at h
    unfold Oper.sp at *
    rcases h with (h | ⟨hasks, hlets⟩) | h
    case inl.inr => exact .inl (.inr ⟨by unfold Oper.asks at *; rw [execOp_put oj hsj a oi.dst v h1] at hasks; exact hasks, hlets⟩)
    case inr =>
      obtain ⟨l, f, tmps, as, b, w', e1, e2⟩ := h
      rw [execOp_put oj hsj a oi.dst v h1] at e1
      exact .inr ⟨l, f, tmps, as, b, w', e1, e2.mono fun e w'' ⟨u, he, hk⟩ => ⟨u, he, keep a hy u, by rw [← Act.put_comm a v u h2]; exact hk⟩⟩
    refine .inl (.inl ?_)
    unfold Oper.wp at *
    rw [execOp_put oj hsj a oi.dst v h1] at h
    generalize (execOp a.eval oj).run P w = r at *
    cases r with
    | ok n w' =>
      cases n <;> simp only [Oper.upon] at h ⊢
      case value u => exact ⟨keep a hy u, by rw [← Act.put_comm a v u h2]; exact h⟩
      case skip => exact ⟨keep a hy _, by rw [← Act.put_comm a v undef h2]; exact h⟩
      case defer d =>
        refine ⟨keep _ (keepD d) _, ?_⟩
        rw [← Act.put_comm _ v undef h2, ← Act.put_defers]
        exact h
      case enter f args =>
        refine Calls.mono h fun e w'' he => ?_
        cases e with
        | returned u => exact ⟨keep a hy u, by rw [← Act.put_comm a v u h2]; exact he⟩
        | panicked c => exact hQ _ _ _ he
        | outgrown => exact he
      case row row args => exact Rows.mono h fun u w'' he => ⟨keep a hy u, by rw [← Act.put_comm a v u h2]; exact he⟩
    | halt x w' =>
      cases x <;> simp only [Oper.upon] at h ⊢
      case panic u => exact hQ _ _ _ h
  · rename_i hw
    simp only [hw] at h
    exact ⟨keep a hy _, by rw [← Act.put_comm a v undef h2]; exact h⟩
/-- The same, where what is apart is the same in every world. -/
theorem sOp_put {j : Nat} {oi oj : Oper} {v : Value} (hj : ops[j]? = some oj) (hap : oi.apart ops oj = true)
    (hsi : ∀ cs b, oi.op ≠ .select cs b) (hsj : ∀ cs b, oj.op ≠ .select cs b)
    (hQ : ∀ c a w, Q (.panic c) (a.put oi.dst v) w → Q (.panic c) a w) {K : Act → World → Prop} {a : Act} {w : World}
    (hy : Yields P ops oi v a) (h : sOp P ops Q j K (a.put oi.dst v) w) :
    sOp P ops Q j (fun a' w' => Yields P ops oi v a' ∧ K (a'.put oi.dst v) w') a w := by
  obtain ⟨h1, h2, h3⟩ := Oper.apart_spec hap
  have keep : ∀ (a : Act), Yields P ops oi v a → ∀ u, Yields P ops oi v (a.put oj.dst u) := fun a hy u =>
    hy.of_same (execOp_put oi hsi a oj.dst u h3) (wanted_put oi a oj.dst u h3)
  have keepD : ∀ d, Yields P ops oi v { a with defers := d :: a.defers } := fun d => hy.of_same rfl rfl
  unfold sOp at *
  simp only [hj] at *
  rw [wanted_put oj a oi.dst v h1] at h
  split
  · rename_i hw
    simp only [hw, if_true] at h
    unfold Oper.sp at *
    rcases h with (h | ⟨hasks, hlets⟩) | h
    case inl.inr => exact .inl (.inr ⟨by unfold Oper.asks at *; rw [execOp_put oj hsj a oi.dst v h1] at hasks; exact hasks, hlets⟩)
    case inr =>
      obtain ⟨l, f, tmps, as, b, w', e1, e2⟩ := h
      rw [execOp_put oj hsj a oi.dst v h1] at e1
      exact .inr ⟨l, f, tmps, as, b, w', e1, e2.mono fun e w'' ⟨u, he, hk⟩ => ⟨u, he, keep a hy u, by rw [← Act.put_comm a v u h2]; exact hk⟩⟩
    refine .inl (.inl ?_)
    unfold Oper.wp at *
    rw [execOp_put oj hsj a oi.dst v h1] at h
    generalize (execOp a.eval oj).run P w = r at *
    cases r with
    | ok n w' =>
      cases n <;> simp only [Oper.upon] at h ⊢
      case value u => exact ⟨keep a hy u, by rw [← Act.put_comm a v u h2]; exact h⟩
      case skip => exact ⟨keep a hy _, by rw [← Act.put_comm a v undef h2]; exact h⟩
      case defer d =>
        refine ⟨keep _ (keepD d) _, ?_⟩
        rw [← Act.put_comm _ v undef h2, ← Act.put_defers]
        exact h
      case enter f args =>
        refine Calls.mono h fun e w'' he => ?_
        cases e with
        | returned u => exact ⟨keep a hy u, by rw [← Act.put_comm a v u h2]; exact he⟩
        | panicked c => exact hQ _ _ _ he
        | outgrown => exact he
      case row row args => exact Rows.mono h fun u w'' he => ⟨keep a hy u, by rw [← Act.put_comm a v u h2]; exact he⟩
    | halt x w' =>
      cases x <;> simp only [Oper.upon] at h ⊢
      case panic u => exact hQ _ _ _ h
  · rename_i hw
    simp only [hw] at h
    exact ⟨keep a hy _, by rw [← Act.put_comm a v undef h2]; exact h⟩

theorem sOp_inl {i : Nat} {K : Act → World → Prop} {a : Act} {w : World} (h : wpOp P ops Q i K a w) : sOp P ops Q i K a w := by
  unfold wpOp at h
  unfold sOp
  cases ho : ops[i]? with
  | none => simp only [ho] at h ⊢; exact h
  | some o =>
    simp only [ho] at h ⊢
    split
    · rename_i hw; rw [if_pos hw] at h; exact .inl h
    · rename_i hw; rw [if_neg hw] at h; exact h
theorem YieldsG.sp1 {i : Nat} {o : Oper} {v : Value} {a : Act} {W w : World} (hi : ops[i]? = some o) (hy : YieldsG P ops W o v a) {K : Act → World → Prop} (hC : Gw W w) (h : ∀ w', Gw w w' → K (a.put o.dst v) w') : sOp P ops Q i K a w := by
  unfold Gx.sOp Oper.sp
  simp only [hi]
  rcases hy with ⟨hw, hv⟩ | ⟨hw, rfl⟩
  · simp only [hw, if_true]
    refine .inl (.inl ?_)
    have h3 := hv w hC
    unfold quietG at h3
    unfold Oper.wp
    generalize (execOp a.eval o).run P w = r at *
    cases r with
    | ok n w' =>
      cases n <;> simp only [] at h3 <;> simp only [Oper.upon]
      case value u =>
        obtain ⟨e1, e2⟩ := h3
        rw [e1, e2]
        exact h _ (Gw.refl _)
      case skip =>
        obtain ⟨e1, e2⟩ := h3
        rw [e1, ← e2]
        exact h _ (Gw.refl _)
      case enter f args =>
        obtain ⟨e1, hc⟩ := h3
        rw [e1]
        exact hc.mono fun e w'' ⟨he, hw''⟩ => by subst he; exact h _ hw''
    | halt x w' => simp only [] at h3
  · simp only [hw, Bool.false_eq_true, if_false]; exact h w (Gw.refl _)

theorem unlisted_hyp {listed : Array Bool} {i j : Nat} {oi : Oper} (hfree : ∀ j oj, ops[j]? = some oj → j ≠ i → listed.getD j true = false → (∀ e ∈ oj.after, Region.binds md e = true → e.on ≠ i) → oi.apart ops oj = true) (hjun : listed.getD j true = false) :
    ∀ k ok, ops[k]? = some ok → k ≠ i → (listed.setIfInBounds j true).getD k true = false → (∀ e ∈ ok.after, Region.binds md e = true → e.on ≠ i) → oi.apart ops ok = true := fun k ok hk hki hun hno => by
  refine hfree k ok hk hki ?_ hno
  by_cases hjk : j = k
  · subst hjk; exact hjun
  · rw [getD_set_ne true hjk] at hun; exact hun

/-- What yields in whatever world is taken first. -/
theorem firstP {i : Nat} {oi : Oper} {v : Value} (hi : ops[i]? = some oi) (hsel : ∀ (j : Nat) (o : Oper) cs b, ops[j]? = some o → o.op ≠ .select cs b)
    (hQ : ∀ c a w, Q (.panic c) (a.put oi.dst v) w → Q (.panic c) a w) (hin : i < n) :
    ∀ (fuel : Nat) (listed : Array Bool) (a : Act) (w : World),
      (∀ j oj, ops[j]? = some oj → j ≠ i → listed.getD j true = false → (∀ e ∈ oj.after, Region.binds md e = true → e.on ≠ i) → oi.apart ops oj = true) →
      i ∈ Region.ready md ops listed → Yields P ops oi v a →
      wpAnyG P md ops Q n fuel (listed.setIfInBounds i true) (a.put oi.dst v) w → wpAnyG P md ops Q n (fuel + 1) listed a w := by
  intro fuel
  induction fuel with
  | zero =>
    intro listed a w _ hr hy H
    refine ⟨fun h => (by rw [h] at hr; cases hr), fun j hj w1 hg => ?_⟩
    by_cases hji : j = i
    · subst hji; exact sOp_inl (hy.wpOp hi ⟨fun _ _ => Gw.refl _, wpAnyG_mono H (hg.set hin)⟩)
    · have := ready_mono hj hji
      rw [H.1] at this
      cases this
  | succ fuel ih =>
    intro listed a w hfree hr hy H
    refine ⟨fun h => (by rw [h] at hr; cases hr), fun j hj w1 hg => ?_⟩
    by_cases hji : j = i
    · subst hji; exact sOp_inl (hy.wpOp hi ⟨fun _ _ => Gw.refl _, wpAnyG_mono H (hg.set hin)⟩)
    · have h1 := H.2 j (ready_mono hj hji) w1 (hg.set hin)
      obtain ⟨hjun, oj, hoj, hall⟩ := mem_ready.1 hj
      have hiun := (mem_ready.1 hr).1
      have hnot : ∀ e ∈ oj.after, Region.binds md e = true → e.on ≠ i := fun e he hb heq => by
        have h1 := hall e he hb
        rw [heq, getD_two hiun] at h1
        cases h1
      have h2 := sOp_put hoj (hfree j oj hoj hji hjun hnot) (fun cs b => hsel i oi cs b hi) (fun cs b => hsel j oj cs b hoj) hQ hy h1
      refine sOp_mono (fun a' w' h3 => ⟨fun hjn hb => h3.2.1 hjn (fun h => hb ((Began.set hin).1 h)), ih (listed.setIfInBounds j true) a' w' (unlisted_hyp hfree hjun) (ready_mono hr (Ne.symm hji)) h3.1 ?_⟩) h2
      rw [Array.setIfInBounds_comm _ _ hji]
      exact h3.2.2

/-- What is quiet, and what the whole tail waits for, is taken first. -/
theorem firstQ {i : Nat} {oi : Oper} {v : Value} (hi : ops[i]? = some oi) (hsel : ∀ (j : Nat) (o : Oper) cs b, ops[j]? = some o → o.op ≠ .select cs b)
    (hQ : ∀ c a w, Q (.panic c) (a.put oi.dst v) w → Q (.panic c) a w) (hin : i < n) (hd : ∀ d, n ≤ d → d < ops.size → reachG md ops i ops.size d = true) :
    ∀ (fuel : Nat) (listed : Array Bool) (a : Act) (w : World),
      (∀ j oj, ops[j]? = some oj → j ≠ i → listed.getD j true = false → (∀ e ∈ oj.after, Region.binds md e = true → e.on ≠ i) → oi.apart ops oj = true) →
      ClosedG md ops listed → ¬ Began n listed → i ∈ Region.ready md ops listed → YieldsG P ops w oi v a →
      wpAnyG P md ops Q n fuel (listed.setIfInBounds i true) (a.put oi.dst v) w → wpAnyG P md ops Q n (fuel + 1) listed a w := by
  intro fuel
  induction fuel with
  | zero =>
    intro listed a w _ hc hb hr hy H
    refine ⟨fun h => (by rw [h] at hr; cases hr), fun j hj w1 hg => ?_⟩
    by_cases hji : j = i
    · subst hji
      exact YieldsG.sp1 hi hy (hg.2 hb) fun w' hw' => ⟨fun _ _ => hw', wpAnyG_mono H ⟨fun h => absurd ((Began.set hin).1 h) hb, fun _ => (hg.2 hb).trans hw'⟩⟩
    · have := ready_mono hj hji
      rw [H.1] at this
      cases this
  | succ fuel ih =>
    intro listed a w hfree hc hb hr hy H
    refine ⟨fun h => (by rw [h] at hr; cases hr), fun j hj w1 hg => ?_⟩
    by_cases hji : j = i
    · subst hji
      exact YieldsG.sp1 hi hy (hg.2 hb) fun w' hw' => ⟨fun _ _ => hw', wpAnyG_mono H ⟨fun h => absurd ((Began.set hin).1 h) hb, fun _ => (hg.2 hb).trans hw'⟩⟩
    · have h1 := H.2 j (ready_mono hj hji) w1 (hg.set hin)
      obtain ⟨hjun, oj, hoj, hall⟩ := mem_ready.1 hj
      have hiun := (mem_ready.1 hr).1
      have hjn : j < n := by
        rcases Nat.lt_or_ge j n with h | h
        · exact h
        · exact absurd hj (reachG_not_ready hc (hd j h (Array.getElem?_eq_some_iff.1 hoj).1) hiun)
      have hnot : ∀ e ∈ oj.after, Region.binds md e = true → e.on ≠ i := fun e he hb heq => by
        have h1 := hall e he hb
        rw [heq, getD_two hiun] at h1
        cases h1
      have h2 := sOp_putQ hoj (hfree j oj hoj hji hjun hnot) (fun cs b => hsel i oi cs b hi) (fun cs b => hsel j oj cs b hoj) hQ hy h1
      refine sOp_mono (fun a' w' h3 => ⟨fun hjn hb => h3.2.1 hjn (fun h => hb ((Began.set hin).1 h)), ih (listed.setIfInBounds j true) a' w' (unlisted_hyp hfree hjun) (hc.set hj) (fun h => hb ((Began.set hjn).1 h)) (ready_mono hr (Ne.symm hji)) (h3.1.mono ((hg.2 hb).trans (h3.2.1 hjn (fun h => hb ((Began.set hin).1 h))))) ?_⟩) h2
      rw [Array.setIfInBounds_comm _ _ hji]
      exact h3.2.2

/-! ### The whole region -/
def isPure (o : Oper) : Bool := match o.op with
  | .move _ => true
  | .assign _ => true
  | _ => false
/-- The first n operations: taken in the text's order; those up to m grow the world; from m on anything. -/
def headG (md : Region.Mode) (ops : Array Oper) (n m : Nat) : Nat → Nat → Array Bool → Bool
  | 0, k, listed => Region.seqB md ops (ops.size - n) k listed
  | f + 1, k, listed => (Region.ready md ops listed).contains k && Region.free md ops listed k && ((ops[k]?).any isPure || (List.range ops.size).all fun d => decide (d < m) || reachG md ops k ops.size d) && headG md ops n m f (k + 1) (listed.setIfInBounds k true)
def tailG (md : Region.Mode) (ops : Array Oper) (n m : Nat) : Bool := Region.noSelect ops && decide (n ≤ m) && decide (m ≤ ops.size) && headG md ops n m n 0 (Array.replicate ops.size false)

theorem seqG : ∀ (l : List Oper) (k : Nat) (listed : Array Bool) (a : Act) (w : World), n ≤ k → (∀ j, l[j]? = ops[k + j]?) →
    Region.seqB md ops l.length k listed = true → (∀ w1, GG n listed w w1 → sList P ops Q l a w1) → wpAnyG P md ops Q n l.length listed a w
  | [], _, _, _, _, _, _, hB, h => ⟨by simpa [Region.seqB] using hB, h⟩
  | o :: l, k, listed, a, w, hk, hl, hB, h => by
    have h0 : ops[k]? = some o := by simpa using (hl 0).symm
    simp only [List.length_cons, Region.seqB, Bool.and_eq_true, decide_eq_true_eq] at hB
    refine ⟨fun h1 => (by rw [hB.1] at h1; cases h1), fun i hi w1 hg => ?_⟩
    have hun := (mem_ready.1 hi).1
    rw [hB.1] at hi
    have hik : i = k := by simpa using hi
    subst hik
    have hw : sOp P ops Q i (sList P ops Q l) a w1 := by unfold sOp; simp only [h0]; exact h w1 hg
    exact sOp_mono (fun a' w' h' => ⟨fun hlt => absurd hlt (by omega), seqG l (i + 1) _ a' w' (by omega) (fun j => by have := hl (j + 1); simpa [Nat.add_assoc, Nat.add_comm 1 j] using this) hB.2 (fun w2 hg2 => by rw [hg2.1 (Began.now hk hun)]; exact h')⟩) hw

/-- What grows the world, one operation behind the other; then T. -/
def growUpon (P : Program) (w : World) (K : Value → World → Prop) : Result Next → Prop
  | .ok (.value v) w' => Gw w w' ∧ ∀ w2, Gw w' w2 → K v w2
  | .ok (.enter f args) w' => Calls P f args w' fun e w'' => ∃ v, e = .returned v ∧ Gw w w'' ∧ ∀ w2, Gw w'' w2 → K v w2
  | _ => False
def wpGrow (P : Program) (ops : Array Oper) (Q : Exit → Act → World → Prop) (T : List Oper) : List Oper → Act → World → Prop
  | [], a, w => sList P ops Q T a w
  | o :: rest, a, w => if Region.wanted o (yielded ops a.tmps) = true then growUpon P w (fun v w2 => wpGrow P ops Q T rest (a.put o.dst v) w2) ((execOp a.eval o).run P w) else ∀ w2, Gw w w2 → wpGrow P ops Q T rest (a.put o.dst undef) w2

theorem seqGrow (T : List Oper) (hT : ∀ j, T[j]? = ops[n + j]?) : ∀ (l : List Oper) (k : Nat) (listed : Array Bool) (a : Act) (w : World), k + l.length = n → (∀ j, j < l.length → l[j]? = ops[k + j]?) → ¬ Began n listed →
    Region.seqB md ops (l.length + T.length) k listed = true → (∀ w1, Gw w w1 → wpGrow P ops Q T l a w1) → wpAnyG P md ops Q n (l.length + T.length) listed a w
  | [], k, listed, a, w, hk, _, hb, hB, h => by
    obtain rfl : k = n := by simpa using hk
    have := seqG (P := P) (Q := Q) (md := md) (n := k) T k listed a w (Nat.le_refl _) hT (by simpa using hB) (fun w1 hg => h w1 (hg.2 hb))
    simpa using this
  | o :: l, k, listed, a, w, hk, hl, hb, hB, h => by
    have h0 : ops[k]? = some o := by simpa using (hl 0 (by simp)).symm
    have e : (o :: l).length + T.length = l.length + T.length + 1 := by simp; omega
    rw [e] at hB ⊢
    simp only [Region.seqB, Bool.and_eq_true, decide_eq_true_eq] at hB
    have hkn : k < n := by simp only [List.length_cons] at hk; omega
    refine ⟨fun h1 => (by rw [hB.1] at h1; cases h1), fun i hi w1 hg => ?_⟩
    rw [hB.1] at hi
    have hik : i = k := by simpa using hi
    subst hik
    have h1 := h w1 (hg.2 hb)
    have hrec := fun (a' : Act) (w' : World) (hh : ∀ w2, Gw w' w2 → wpGrow P ops Q T l a' w2) => seqGrow T hT l (i + 1) (listed.setIfInBounds i true) a' w' (by simp only [List.length_cons] at hk; omega) (fun j hj => by have := hl (j + 1) (by simp; omega); simpa [Nat.add_assoc, Nat.add_comm 1 j] using this) (fun h => hb ((Began.set hkn).1 h)) hB.2 hh
    unfold sOp
    simp only [h0]
    unfold wpGrow at h1
    split
    · rename_i hw
      rw [if_pos hw] at h1
      refine .inl (.inl ?_)
      unfold Oper.wp
      generalize (execOp a.eval o).run P w1 = r at *
      cases r with
      | ok x w' =>
        cases x <;> simp only [growUpon] at h1 <;> simp only [Oper.upon]
        case value u => exact ⟨fun _ _ => h1.1, hrec _ _ h1.2⟩
        case enter f args => exact h1.mono fun e w'' ⟨v, he, hg', hk'⟩ => by subst he; exact ⟨fun _ _ => hg', hrec _ _ hk'⟩
      | halt x w' => exact h1.elim
    · rename_i hw
      rw [if_neg hw] at h1
      exact ⟨fun _ _ => Gw.refl _, hrec _ _ h1⟩

theorem pure_yields {o : Oper} {v : Value} {a : Act} {w : World} (hp : isPure o = true) (hy : YieldsG P ops w o v a) : Yields P ops o v a := by
  rcases hy with ⟨hw, h⟩ | h
  · refine .inl ⟨hw, fun w1 => ?_⟩
    have h1 := h w (Gw.refl w)
    unfold quietG at h1
    obtain ⟨dst, op, ty, pos, af, g⟩ := o
    cases op <;> simp [isPure] at hp
    all_goals (simp only [execOp] at h1 ⊢; have e := h1.2; rw [← e]; rfl)
  · exact .inr h
theorem yieldsG_of {i : Nat} {o : Oper} {a : Act} {w : World} {K : Act → Prop} (h : if Region.wanted o (yielded ops a.tmps) = true then ∃ v, (∀ w1, Below w.heap.size w w1 → quietG P o a w1 v) ∧ K (a.put o.dst v) else K (a.put o.dst undef)) : ∃ v, YieldsG P ops w o v a ∧ K (a.put o.dst v) := by
  by_cases hw : Region.wanted o (yielded ops a.tmps) = true
  · rw [if_pos hw] at h
    obtain ⟨v, h1, h2⟩ := h
    exact ⟨v, .inl ⟨hw, h1⟩, h2⟩
  · rw [if_neg hw] at h
    exact ⟨undef, .inr ⟨by simpa using hw, rfl⟩, h⟩

theorem headG_lex {n m : Nat} (hsel : Region.noSelect ops = true) (hnm : n ≤ m) (hQ : ∀ c a w, ¬ Q (.panic c) a w) (L T : List Oper) (hL : n + L.length = m) (hLo : ∀ j, j < L.length → L[j]? = ops[n + j]?) (hT : ∀ j, T[j]? = ops[m + j]?) (hTl : L.length + T.length = ops.size - n) :
    ∀ (l : List Oper) (k : Nat) (listed : Array Bool) (a : Act) (w : World), (∀ j, j < l.length → l[j]? = ops[k + j]?) → k + l.length = n → ClosedG md ops listed → ¬ Began m listed →
    headG md ops n m l.length k listed = true → wpQ P ops w (fun a' => ∀ w1, Gw w w1 → wpGrow P ops Q T L a' w1) l a → wpAnyG P md ops Q m (l.length + (L.length + T.length)) listed a w
  | [], k, listed, a, w, _, hk, _, hb, hB, h => by
    obtain rfl : k = n := by simpa using hk
    have := seqGrow (P := P) (Q := Q) (md := md) (n := m) T hT L k listed a w hL hLo hb (by rw [hTl]; simpa [headG] using hB) h
    simpa using this
  | o :: l, k, listed, a, w, hl, hk, hc, hb, hB, h => by
    have h0 : ops[k]? = some o := by simpa using (hl 0 (by simp)).symm
    simp only [List.length_cons, headG, Bool.and_eq_true] at hB
    obtain ⟨⟨⟨hr, hf⟩, hpd⟩, hB'⟩ := hB
    have hkn : k < n := by simp only [List.length_cons] at hk; omega
    have hkm : k < m := by omega
    have hr' : k ∈ Region.ready md ops listed := by simpa using hr
    obtain ⟨v, hy, hK⟩ := yieldsG_of (i := k) h
    have hrec := headG_lex hsel hnm hQ L T hL hLo hT hTl l (k + 1) _ (a.put o.dst v) w (fun j hj => by have := hl (j + 1) (by simp; omega); simpa [Nat.add_assoc, Nat.add_comm 1 j] using this) (by simp only [List.length_cons] at hk; omega) (hc.set hr') (fun h => hb ((Began.set hkm).1 h)) hB' hK
    have e : (o :: l).length + (L.length + T.length) = l.length + (L.length + T.length) + 1 := by simp; omega
    rw [e]
    by_cases hp : isPure o = true
    · exact firstP h0 (Region.noSelect_spec hsel) (fun c a w h => absurd h (hQ _ _ _)) hkm _ listed a w (Region.free_spec h0 hf) hr' (pure_yields hp hy) hrec
    · have hd : ∀ d, m ≤ d → d < ops.size → reachG md ops k ops.size d = true := fun d h1 h2 => by
        rw [h0] at hpd
        simp only [Option.any_some, hp, Bool.false_or] at hpd
        have h3 := List.all_eq_true.1 hpd d (List.mem_range.2 h2)
        have h4 : decide (d < m) = false := by simp; omega
        rw [h4, Bool.false_or] at h3
        exact h3
      exact firstQ h0 (Region.noSelect_spec hsel) (fun c a w h => absurd h (hQ _ _ _)) hkm hd _ listed a w (Region.free_spec h0 hf) hc hb hr' hy hrec

theorem drew_grown (w : World) : Gw w { w with drawn := w.drawn + 1 } := ⟨rfl, rfl, rfl, Nat.le_refl _, fun _ _ => rfl⟩
theorem region_tail {id : Nat} {a : Act} {w : World} {l : List Oper} (n m : Nat) (hm : P.follows .mixedOrders = true) (hB : tailG .any l.toArray n m = true)
    (h : wpQ P l.toArray w (fun a' => ∀ w1, Gw w w1 → wpGrow P l.toArray (NoPanic Q) (l.drop m) ((l.drop n).take (m - n)) a' w1) (l.take n) a) : sw P (.region id l.toArray true) Q a w := by
  simp only [tailG, Bool.and_eq_true, decide_eq_true_eq] at hB
  obtain ⟨⟨⟨hsel, hnm⟩, hms⟩, hB⟩ := hB
  have hn' : m ≤ l.length := by simpa using hms
  have htl : (l.take n).length = n := by simp; omega
  have hL : ((l.drop n).take (m - n)).length = m - n := by simp; omega
  refine sw_mono NoPanic.imp (sw_any hm (wpAny_of_G (n := m) _ _ _ _ ?_))
  have key := headG_lex (P := P) (ops := l.toArray) (Q := NoPanic Q) (md := .any) (n := n) (m := m) hsel hnm (fun c a w h => by simp [NoPanic] at h) ((l.drop n).take (m - n)) (l.drop m) (by rw [hL]; omega)
    (fun j hj => by rw [hL] at hj; simp [List.getElem?_take, List.getElem?_drop, hj]) (fun j => by simp [List.getElem?_drop]) (by rw [hL]; simp; omega) (l.take n) 0 (Array.replicate l.toArray.size false) a w
    (fun j hj => by have : j < n := by rw [htl] at hj; exact hj
                    simp [this]) (by simpa using htl) (fun j oj _ hl => by rw [getD_replicate_false] at hl; cases hl) (fun ⟨d, _, hd⟩ => by rw [getD_replicate_false] at hd; cases hd) (by rw [htl]; exact hB) h
  have e : (l.take n).length + (((l.drop n).take (m - n)).length + (l.drop m).length) = l.toArray.size := by rw [hL]; simp; omega
  rw [e] at key
  exact wpAnyG_mono key ⟨fun ⟨d, _, hd⟩ => (by rw [getD_replicate_false] at hd; cases hd), fun _ => drew_grown w⟩
end

/-- No panic is handed on. -/
def calm (Q : Post) : Post := fun e σ w => match e with
  | .panic _ => False
  | e => Q e σ w
/-- What grows the world, walked. -/
structure wg (P : Program) (n : Nat) (ops : Array Oper) (Q : Post) (T : List Oper) (l : List Oper) (σ : Nat → Value) (w : World) : Prop where mk :: (out : wpGrow P ops (lift n Q) T l (Fr n σ) w)
section
variable {P : Program} {n : Nat} {ops : Array Oper} {Q : Post} {T rest : List Oper} {σ : Nat → Value} {w w' : World} {o : Oper} {v : Value}
theorem wg_nil (h : wl P n ops Q T σ w) : wg P n ops Q T [] σ w := ⟨h.out⟩
theorem wg_val {R : Value → World → Prop} (hw : wantS o ops n σ = true) (h : ∃ v w', Runs P (opv (cut n σ)) o w (.ok (.value v) w') ∧ R v w') (hR : ∀ v w', R v w' → Gw w w')
    (k : ∀ v w', R v w' → ∀ w2, Gw w' w2 → wg P n ops Q T rest (updO σ o.dst v) w2) : wg P n ops Q T (o :: rest) σ w := by
  obtain ⟨v, w', hrun, hr⟩ := h
  refine ⟨?_⟩
  unfold wpGrow
  rw [if_pos (by rw [yielded_eq]; exact hw), Fr_eval, hrun.out]
  exact ⟨hR v w' hr, fun w2 h2 => by have z := (k v w' hr w2 h2).out; rw [← Fr_put] at z; exact z⟩
theorem wg_off (hw : wantS o ops n σ = false) (k : ∀ w2, Gw w w2 → wg P n ops Q T rest (updO σ o.dst undef) w2) : wg P n ops Q T (o :: rest) σ w := by
  refine ⟨?_⟩
  unfold wpGrow
  rw [if_neg (by rw [yielded_eq]; exact fun h => by rw [show Region.wanted o (yS ops n σ) = wantS o ops n σ from rfl, hw] at h; cases h)]
  exact fun w2 h2 => by rw [Fr_put]; exact (k w2 h2).out
theorem wg_callR {f : FuncId} {args : Array Value} {R : Value → World → Prop} (hw : wantS o ops n σ = true) (hrun : Runs P (opv (cut n σ)) o w (.ok (.enter f args) w)) (hc : CallsR P f args w R)
    (k : ∀ v w1, Gw w w1 → R v w1 → ∀ w2, Gw w1 w2 → wg P n ops Q T rest (updO σ o.dst v) w2) : wg P n ops Q T (o :: rest) σ w := by
  refine ⟨?_⟩
  unfold wpGrow
  rw [if_pos (by rw [yielded_eq]; exact hw), Fr_eval, hrun.out]
  exact Calls.mono hc.out fun e w1 ⟨v, he, hb, hR⟩ => ⟨v, he, hb, fun w2 h2 => by have z := (k v w1 hb hR w2 h2).out; rw [← Fr_put] at z; exact z⟩
end
theorem WP_drawGrow {P : Program} {n : Nat} {Q : Post} {σ : Nat → Value} {w : World} {id : Nat} {l : List Oper} (k m : Nat) (hm : P.follows .mixedOrders = true) (hB : tailG .any l.toArray k m = true)
    (h : ql P n l.toArray w (fun σ' => ∀ w', Below w.heap.size w w' → wg P n l.toArray (calm Q) (l.drop m) ((l.drop k).take (m - k)) σ' w') (l.take k) σ) : WP P n (.region id l.toArray true) Q σ w := by
  refine ⟨region_tail k m hm hB ?_⟩
  have hq : lift n (calm Q) = NoPanic (lift n Q) := by
    funext e a w
    cases e <;> simp [lift, calm, NoPanic]
  have mono : ∀ (l' : List Oper) (a : Act), wpQ P l.toArray w (fun a => ∃ σ', a = Fr n σ' ∧ ∀ w', Below w.heap.size w w' → wg P n l.toArray (calm Q) (l.drop m) ((l.drop k).take (m - k)) σ' w') l' a →
      wpQ P l.toArray w (fun a' => ∀ w1, Gw w w1 → wpGrow P l.toArray (NoPanic (lift n Q)) (l.drop m) ((l.drop k).take (m - k)) a' w1) l' a := by
    intro l'
    induction l' with
    | nil => rintro a ⟨σ', rfl, hh⟩ w' hw'; rw [← hq]; exact (hh w' hw').out
    | cons o r ih =>
      intro a ha
      unfold wpQ at ha ⊢
      split
      · rename_i hw; rw [if_pos hw] at ha; obtain ⟨v, h1, h2⟩ := ha; exact ⟨v, h1, ih _ h2⟩
      · rename_i hw; rw [if_neg hw] at ha; exact ih _ ha
  exact mono _ _ h.out
/-- No operation that only grows the world ahead of the tail. -/
theorem WP_drawTail {P : Program} {n : Nat} {Q : Post} {σ : Nat → Value} {w : World} {id : Nat} {l : List Oper} (k : Nat) (hm : P.follows .mixedOrders = true) (hB : tailG .any l.toArray k k = true)
    (h : ql P n l.toArray w (fun σ' => ∀ w', Below w.heap.size w w' → wl P n l.toArray (calm Q) (l.drop k) σ' w') (l.take k) σ) : WP P n (.region id l.toArray true) Q σ w := by
  refine WP_drawGrow k k hm hB ?_
  rw [Nat.sub_self]
  have mono : ∀ (l' : List Oper) (a : Act), wpQ P l.toArray w (fun a => ∃ σ', a = Fr n σ' ∧ ∀ w', Below w.heap.size w w' → wl P n l.toArray (calm Q) (l.drop k) σ' w') l' a →
      wpQ P l.toArray w (fun a => ∃ σ', a = Fr n σ' ∧ ∀ w', Below w.heap.size w w' → wg P n l.toArray (calm Q) (l.drop k) ((l.drop k).take 0) σ' w') l' a := by
    intro l'
    induction l' with
    | nil => rintro a ⟨σ', rfl, hh⟩; exact ⟨σ', rfl, fun w' hw' => wg_nil (hh w' hw')⟩
    | cons o r ih =>
      intro a ha
      unfold wpQ at ha ⊢
      split
      · rename_i hw; rw [if_pos hw] at ha; obtain ⟨v, h1, h2⟩ := ha; exact ⟨v, h1, ih _ h2⟩
      · rename_i hw; rw [if_neg hw] at ha; exact ih _ ha
  exact ⟨mono _ _ h.out⟩
theorem calm_normal {Q : Post} {σ : Nat → Value} {w : World} (h : Q .normal σ w) : calm Q .normal σ w := h

/-- What a call has made and hands back is the caller's own from there on. -/
theorem St.join {w0 w w' : World} {os os' : List Ob} (S : St w0 w os) (S' : St w w' os') : St w0 w' (os ++ os') := by
  have G := S.grow S'.below
  have hle : w0.heap.size ≤ w.heap.size := S.below.size
  refine ⟨G.below, fun x hx => ?_, ?_⟩
  · rcases List.mem_append.1 hx with hx | hx
    · exact G.ok x hx
    · have ho := S'.ok x hx
      cases x with
      | var b T cs => exact ⟨Nat.le_trans hle ho.1, ho.2⟩
      | row v T sz n xs =>
        obtain ⟨h1, h2⟩ := ho
        refine ⟨h1, ?_⟩
        rcases h2 with h2 | ⟨g, cap, cur, hv, hg, r⟩
        · exact .inl h2
        · exact .inr ⟨g, cap, cur, hv, Nat.le_trans hle hg, r⟩
      | raw b o => exact ⟨Nat.le_trans hle ho.1, ho.2⟩
  · refine List.pairwise_append.2 ⟨G.apart, S'.apart, fun a ha b hb => ?_⟩
    cases ha' : a.blk with
    | none => exact .inl rfl
    | some k =>
      refine .inr fun e => ?_
      have h1 := ((S.ok a ha).lt k ha').2
      have h2 := ((S'.ok b hb).lt k e.symm).1
      omega
theorem fl_one {α : Type} {D : Flat α} {x : α} {w : World} {a : Addr} (h : CellsAt w a (fl D [x])) : CellsAt w a (D.enc x) := by simpa [fl] using h
/-- Some of the objects are kept. -/
def keepL : List Bool → List Ob → List Ob
  | true :: m, o :: os => o :: keepL m os
  | false :: m, _ :: os => keepL m os
  | _, _ => []
theorem keepL_sub : ∀ (m : List Bool) (os : List Ob), (keepL m os).Sublist os
  | [], os => by simp [keepL]
  | true :: m, [] => by simp [keepL]
  | false :: m, [] => by simp [keepL]
  | true :: m, o :: os => List.Sublist.cons_cons o (keepL_sub m os)
  | false :: m, o :: os => List.Sublist.cons o (keepL_sub m os)
theorem St.keep {w0 w : World} {os : List Ob} (S : St w0 w os) (m : List Bool) : St w0 w (keepL m os) := S.sub (keepL_sub m os)
end Go.Gx
