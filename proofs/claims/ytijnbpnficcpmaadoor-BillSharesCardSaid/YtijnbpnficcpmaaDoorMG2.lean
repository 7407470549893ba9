/- Merged texts: GxJ, GxJ3, GxKeep, GxRow, GxJ4, GxJ5, GxRange, GxJ6. -/
import Derived.Test.YtijnbpnficcpmaaDoorMG1
import Derived.Laws.OwnMore
import Derived.WalkKit
import Derived.ProofKit
import Derived.OpenShut
import Derived.ShutString
import Derived.ChangeOld
import Derived.Below
import Derived.SizedLaws
import Derived.Deep.Slices
import Derived.RangeFuncLeaves
import Derived.RangeFuncOwn
/-
  A region that draws its order, with operations that read known objects beside others that write elsewhere: what is known of the objects read is carried past each of the others.
-/
namespace Go.Gx
open Go Go.RowKit Go.Gx
set_option linter.unusedVariables false
set_option linter.unusedSimpArgs false

section
variable {P : Program} {ops : Array Oper} {Q : Exit → Act → World → Prop} {md : Region.Mode} {J : World → Prop} {nj : Nat → Bool}

def sAnyJ (P : Program) (md : Region.Mode) (ops : Array Oper) (Q : Exit → Act → World → Prop) (J : World → Prop) (nj : Nat → Bool) : Nat → Array Bool → Act → World → Prop
  | 0, listed, a, w => Region.ready md ops listed = [] ∧ Q .normal a w
  | fuel + 1, listed, a, w =>
    (Region.ready md ops listed = [] → Q .normal a w) ∧
    ∀ i ∈ Region.ready md ops listed, sOp P ops Q i (fun a' w' => (nj i = true → J w') ∧ sAnyJ P md ops Q J nj fuel (listed.setIfInBounds i true) a' w') a w
theorem sAny_of_J : ∀ (fuel : Nat) (listed : Array Bool) (a : Act) (w : World), sAnyJ P md ops Q J nj fuel listed a w → sAny P md ops Q fuel listed a w
  | 0, _, _, _, h => h
  | fuel + 1, _, _, _, h => ⟨h.1, fun i hi => sOp_mono (fun a' w' h' => sAny_of_J fuel _ a' w' h'.2) (h.2 i hi)⟩
/-- In every world of the class the operation leaves v, and the world as it is. -/
def YieldsJ (P : Program) (ops : Array Oper) (J : World → Prop) (o : Oper) (v : Value) (a : Act) : Prop :=
  (Region.wanted o (yielded ops a.tmps) = true ∧ ∀ w, J w → (execOp a.eval o).run P w = .ok (.value v) w) ∨ (Region.wanted o (yielded ops a.tmps) = false ∧ v = undef)
theorem YieldsJ.of_same {o : Oper} {v : Value} {a a' : Act} (hy : YieldsJ P ops J o v a) (he : execOp a'.eval o = execOp a.eval o)
    (hw : Region.wanted o (yielded ops a'.tmps) = Region.wanted o (yielded ops a.tmps)) : YieldsJ P ops J o v a' := by
  unfold YieldsJ at *
  rw [he, hw]
  exact hy
theorem YieldsJ.sOp {i : Nat} {o : Oper} {v : Value} {a : Act} {w : World} (hi : ops[i]? = some o) (hy : YieldsJ P ops J o v a) {K : Act → World → Prop} (hJ : J w) (h : K (a.put o.dst v) w) : Gx.sOp P ops Q i K a w := by
  unfold Gx.sOp Oper.sp
  simp only [hi]
  rcases hy with ⟨hw, hv⟩ | ⟨hw, rfl⟩
  · simp only [hw, if_true, Oper.wp, hv w hJ, Oper.upon]; exact .inl (.inl h)
  · simp only [hw, Bool.false_eq_true, if_false]; exact h
theorem sOp_putJ {j : Nat} {oi oj : Oper} {v : Value} (hj : ops[j]? = some oj) (hap : oi.apart ops oj = true)
    (hsi : ∀ cs b, oi.op ≠ .select cs b) (hsj : ∀ cs b, oj.op ≠ .select cs b)
    (hQ : ∀ c a w, Q (.panic c) (a.put oi.dst v) w → Q (.panic c) a w) {K : Act → World → Prop} {a : Act} {w : World}
    (hy : YieldsJ P ops J oi v a) (h : sOp P ops Q j K (a.put oi.dst v) w) :
    sOp P ops Q j (fun a' w' => YieldsJ P ops J oi v a' ∧ K (a'.put oi.dst v) w') a w := by
  obtain ⟨h1, h2, h3⟩ := Oper.apart_spec hap
  have keep : ∀ (a : Act), YieldsJ P ops J oi v a → ∀ u, YieldsJ P ops J oi v (a.put oj.dst u) := fun a hy u =>
    hy.of_same (execOp_put oi hsi a oj.dst u h3) (wanted_put oi a oj.dst u h3)
  have keepD : ∀ d, YieldsJ P ops J oi v { a with defers := d :: a.defers } := fun d => hy.of_same rfl rfl
  unfold sOp at *
  simp only [hj] at *
  rw [wanted_put oj a oi.dst v h1] at h
  split
  · rename_i hw
    simp only [hw, if_true] at h
    unfold Oper.sp at *
    rcases h with (h | ⟨hasks, hlets⟩) | h
    case inl.inr => exact .inl (.inr ⟨by unfold Oper.asks at *; rw [execOp_put oj hsj a oi.dst v h1] at hasks; exact hasks, hlets⟩)
    case inr =>
      obtain ⟨l, f, tmps, as, b, w', e1, e2⟩ := h
      rw [execOp_put oj hsj a oi.dst v h1] at e1
      exact .inr ⟨l, f, tmps, as, b, w', e1, e2.mono fun e w'' ⟨u, he, hk⟩ => ⟨u, he, keep a hy u, by rw [← Act.put_comm a v u h2]; exact hk⟩⟩
    refine .inl (.inl ?_)
    unfold Oper.wp at *
    rw [execOp_put oj hsj a oi.dst v h1] at h
    generalize (execOp a.eval oj).run P w = r at *
    cases r with
    | ok n w' =>
      cases n <;> simp only [Oper.upon] at h ⊢
      case value u => exact ⟨keep a hy u, by rw [← Act.put_comm a v u h2]; exact h⟩
      case skip => exact ⟨keep a hy _, by rw [← Act.put_comm a v undef h2]; exact h⟩
      case defer d =>
        refine ⟨keep _ (keepD d) _, ?_⟩
        rw [← Act.put_comm _ v undef h2, ← Act.put_defers]
        exact h
      case enter f args =>
        refine Calls.mono h fun e w'' he => ?_
        cases e with
        | returned u => exact ⟨keep a hy u, by rw [← Act.put_comm a v u h2]; exact he⟩
        | panicked c => exact hQ _ _ _ he
        | outgrown => exact he
      case row row args => exact Rows.mono h fun u w'' he => ⟨keep a hy u, by rw [← Act.put_comm a v u h2]; exact he⟩
    | halt x w' =>
      cases x <;> simp only [Oper.upon] at h ⊢
      case panic u => exact hQ _ _ _ h
  · rename_i hw
    simp only [hw] at h
    exact ⟨keep a hy _, by rw [← Act.put_comm a v undef h2]; exact h⟩


theorem firstJ {i : Nat} {oi : Oper} {v : Value} (hi : ops[i]? = some oi) (hsel : ∀ (j : Nat) (o : Oper) cs b, ops[j]? = some o → o.op ≠ .select cs b)
    (hQ : ∀ c a w, Q (.panic c) (a.put oi.dst v) w → Q (.panic c) a w) (hd : ∀ d, nj d = false → d < ops.size → reachG md ops i ops.size d = true) :
    ∀ (fuel : Nat) (listed : Array Bool) (a : Act) (w : World),
      (∀ j oj, ops[j]? = some oj → j ≠ i → listed.getD j true = false → (∀ e ∈ oj.after, Region.binds md e = true → e.on ≠ i) → oi.apart ops oj = true) →
      ClosedG md ops listed → i ∈ Region.ready md ops listed → YieldsJ P ops J oi v a → J w →
      sAnyJ P md ops Q J nj fuel (listed.setIfInBounds i true) (a.put oi.dst v) w → sAnyJ P md ops Q J nj (fuel + 1) listed a w := by
  intro fuel
  induction fuel with
  | zero =>
    intro listed a w _ _ hr hy hJ H
    refine ⟨fun h => (by rw [h] at hr; cases hr), fun j hj => ?_⟩
    by_cases hji : j = i
    · subst hji; exact hy.sOp hi hJ ⟨fun _ => hJ, H⟩
    · have := ready_mono hj hji
      rw [H.1] at this
      cases this
  | succ fuel ih =>
    intro listed a w hfree hc hr hy hJ H
    refine ⟨fun h => (by rw [h] at hr; cases hr), fun j hj => ?_⟩
    by_cases hji : j = i
    · subst hji; exact hy.sOp hi hJ ⟨fun _ => hJ, H⟩
    · have h1 := H.2 j (ready_mono hj hji)
      obtain ⟨hjun, oj, hoj, hall⟩ := mem_ready.1 hj
      have hiun := (mem_ready.1 hr).1
      have hjn : nj j = true := by
        cases h : nj j
        · exact absurd hj (reachG_not_ready hc (hd j h (Array.getElem?_eq_some_iff.1 hoj).1) hiun)
        · rfl
      have hnot : ∀ e ∈ oj.after, Region.binds md e = true → e.on ≠ i := fun e he hb heq => by
        have h1 := hall e he hb
        rw [heq, getD_two hiun] at h1
        cases h1
      have h2 := sOp_putJ hoj (hfree j oj hoj hji hjun hnot) (fun cs b => hsel i oi cs b hi) (fun cs b => hsel j oj cs b hoj) hQ hy h1
      refine sOp_mono (fun a' w' h3 => ⟨h3.2.1, ih (listed.setIfInBounds j true) a' w' (unlisted_hyp hfree hjun) (hc.set hj) (ready_mono hr (Ne.symm hji)) h3.1 (h3.2.1 hjn) ?_⟩) h2
      rw [Array.setIfInBounds_comm _ _ hji]
      exact h3.2.2

def sListJ (P : Program) (ops : Array Oper) (Q : Exit → Act → World → Prop) (J : World → Prop) (T : List Oper) : List Oper → Act → World → Prop
  | [], a, w => sList P ops Q T a w
  | o :: rest, a, w => if Region.wanted o (yielded ops a.tmps) = true then Oper.sp P o a w (fun a' w' => J w' ∧ sListJ P ops Q J T rest a' w') Q else J w ∧ sListJ P ops Q J T rest (a.put o.dst undef) w
def headJB (md : Region.Mode) (ops : Array Oper) (ts us : List Nat) : List Nat → Array Bool → Bool
  | [], listed => Pm.seqLB md ops (ts ++ us) listed
  | k :: ks, listed => (Region.ready md ops listed).contains k && Region.free md ops listed k && (us.all fun d => reachG md ops k ops.size d) && headJB md ops ts us ks (listed.setIfInBounds k true)
def permJB (md : Region.Mode) (ops : Array Oper) (hs ts us : List Nat) : Bool := Region.noSelect ops && headJB md ops ts us hs (Array.replicate ops.size false)
def wpJ (P : Program) (ops : Array Oper) (J : World → Prop) (K : Act → Prop) : List Oper → Act → Prop
  | [], a => K a
  | o :: rest, a => if Region.wanted o (yielded ops a.tmps) = true then ∃ v, (∀ w, J w → (execOp a.eval o).run P w = .ok (.value v) w) ∧ wpJ P ops J K rest (a.put o.dst v) else wpJ P ops J K rest (a.put o.dst undef)

theorem seqT {l : List Oper} : ∀ (ks : List Nat) (listed : Array Bool) (a : Act) (w : World), (∀ k ∈ ks, nj k = false) →
    Pm.seqLB md l.toArray ks listed = true → sList P l.toArray Q (Pm.pk l ks) a w → sAnyJ P md l.toArray Q J nj ks.length listed a w
  | [], _, _, _, _, hB, h => ⟨by simpa [Pm.seqLB] using hB, h⟩
  | k :: ks, listed, a, w, hn, hB, h => by
    simp only [Pm.seqLB, Bool.and_eq_true, decide_eq_true_eq] at hB
    refine ⟨fun h1 => (by rw [hB.1] at h1; cases h1), fun i hi => ?_⟩
    obtain ⟨hun, o, h0, _⟩ := mem_ready.1 hi
    rw [hB.1] at hi
    have hik : i = k := by simpa using hi
    subst hik
    rw [Pm.pk, Pm.pk_get h0] at h
    have hw : sOp P l.toArray Q i (sList P l.toArray Q (Pm.pk l ks)) a w := by unfold sOp; simp only [h0]; exact h
    exact sOp_mono (fun a' w' h' => ⟨(fun e => by rw [hn i (List.mem_cons_self ..)] at e; cases e), seqT ks _ a' w' (fun k hk => hn k (List.mem_cons_of_mem _ hk)) hB.2 h'⟩) hw
theorem seqJ {l : List Oper} {us : List Nat} (hn : ∀ k ∈ us, nj k = false) : ∀ (ks : List Nat) (listed : Array Bool) (a : Act) (w : World),
    Pm.seqLB md l.toArray (ks ++ us) listed = true → sListJ P l.toArray Q J (Pm.pk l us) (Pm.pk l ks) a w → sAnyJ P md l.toArray Q J nj (ks.length + us.length) listed a w
  | [], listed, a, w, hB, h => by
    simp only [List.length_nil, Nat.zero_add]
    exact seqT us listed a w hn hB h
  | k :: ks, listed, a, w, hB, h => by
    simp only [List.cons_append, Pm.seqLB, Bool.and_eq_true, decide_eq_true_eq] at hB
    have e : (k :: ks).length + us.length = ks.length + us.length + 1 := by simp; omega
    rw [e]
    refine ⟨fun h1 => (by rw [hB.1] at h1; cases h1), fun i hi => ?_⟩
    obtain ⟨hun, o, h0, _⟩ := mem_ready.1 hi
    rw [hB.1] at hi
    have hik : i = k := by simpa using hi
    subst hik
    rw [Pm.pk, Pm.pk_get h0] at h
    have hw : sOp P l.toArray Q i (fun a' w' => J w' ∧ sListJ P l.toArray Q J (Pm.pk l us) (Pm.pk l ks) a' w') a w := by unfold sOp; simp only [h0]; exact h
    exact sOp_mono (fun a' w' h' => ⟨fun _ => h'.1, seqJ hn ks _ a' w' hB.2 h'.2⟩) hw
theorem headJ {l : List Oper} {ts us : List Nat} (hsel : Region.noSelect l.toArray = true) (hQ : ∀ c a w, ¬ Q (.panic c) a w) :
    ∀ (ks : List Nat) (listed : Array Bool) (a : Act) (w : World), headJB md l.toArray ts us ks listed = true → ClosedG md l.toArray listed → J w →
    wpJ P l.toArray J (fun a' => sListJ P l.toArray Q J (Pm.pk l us) (Pm.pk l ts) a' w) (Pm.pk l ks) a → sAnyJ P md l.toArray Q J (fun d => !us.contains d) (ks.length + (ts.length + us.length)) listed a w
  | [], listed, a, w, hB, hc, hJ, h => by
    simp only [List.length_nil, Nat.zero_add]
    exact seqJ (fun k hk => by simpa using hk) ts listed a w (by simpa [headJB] using hB) h
  | k :: ks, listed, a, w, hB, hc, hJ, h => by
    simp only [headJB, Bool.and_eq_true] at hB
    obtain ⟨⟨⟨hr, hf⟩, hd⟩, hB'⟩ := hB
    have hr' : k ∈ Region.ready md l.toArray listed := by simpa using hr
    obtain ⟨_, o, h0, _⟩ := mem_ready.1 hr'
    rw [Pm.pk, Pm.pk_get h0] at h
    have hy : ∃ v, YieldsJ P l.toArray J o v a ∧ wpJ P l.toArray J (fun a' => sListJ P l.toArray Q J (Pm.pk l us) (Pm.pk l ts) a' w) (Pm.pk l ks) (a.put o.dst v) := by
      unfold wpJ at h
      by_cases hw : Region.wanted o (yielded l.toArray a.tmps) = true
      · rw [if_pos hw] at h
        obtain ⟨v, h1, h2⟩ := h
        exact ⟨v, .inl ⟨hw, h1⟩, h2⟩
      · rw [if_neg hw] at h
        exact ⟨undef, .inr ⟨by simpa using hw, rfl⟩, h⟩
    obtain ⟨v, hy, hK⟩ := hy
    have hrec := headJ hsel hQ ks _ (a.put o.dst v) w hB' (hc.set hr') hJ hK
    have e : (k :: ks).length + (ts.length + us.length) = ks.length + (ts.length + us.length) + 1 := by simp; omega
    rw [e]
    exact firstJ h0 (Region.noSelect_spec hsel) (fun c a w h => absurd h (hQ _ _ _)) (fun d hdu hds => List.all_eq_true.1 hd d (by simpa using hdu)) _ listed a w (Region.free_spec h0 hf) hc hr' hy hJ hrec
end

/-- What is the same in every world of the class, walked. -/
structure jq (P : Program) (n : Nat) (ops : Array Oper) (J : World → Prop) (K : (Nat → Value) → Prop) (l : List Oper) (σ : Nat → Value) : Prop where mk :: (out : wpJ P ops J (fun a => ∃ σ', a = Fr n σ' ∧ K σ') l (Fr n σ))
/-- The rest, one behind the other. -/
structure wj (P : Program) (n : Nat) (ops : Array Oper) (Q : Post) (J : World → Prop) (TL l : List Oper) (σ : Nat → Value) (w : World) : Prop where mk :: (out : sListJ P ops (lift n Q) J TL l (Fr n σ) w)
section
variable {P : Program} {n : Nat} {ops : Array Oper} {Q : Post} {J : World → Prop} {K : (Nat → Value) → Prop} {TL rest : List Oper} {σ : Nat → Value} {w w' : World} {o : Oper} {v : Value}
theorem jq_nil (h : K σ) : jq P n ops J K [] σ := ⟨⟨σ, rfl, h⟩⟩
theorem jq_val (hw : wantS o ops n σ = true) (hrun : ∀ w, J w → Runs P (opv (cut n σ)) o w (.ok (.value v) w)) (k : jq P n ops J K rest (updO σ o.dst v)) : jq P n ops J K (o :: rest) σ := by
  refine ⟨?_⟩
  unfold wpJ
  rw [if_pos (by rw [yielded_eq]; exact hw)]
  exact ⟨v, fun w hJ => by rw [Fr_eval]; exact (hrun w hJ).out, by rw [Fr_put]; exact k.out⟩
theorem jq_off (hw : wantS o ops n σ = false) (k : jq P n ops J K rest (updO σ o.dst undef)) : jq P n ops J K (o :: rest) σ := by
  refine ⟨?_⟩
  unfold wpJ
  rw [if_neg (by rw [yielded_eq]; exact fun h => by rw [show Region.wanted o (yS ops n σ) = wantS o ops n σ from rfl, hw] at h; cases h), Fr_put]
  exact k.out
theorem jq_move {d : Nat} {x : Operand} {ty : TypeId} {pos : String} {af : Array Edge} {g : Option (Nat × Bool)} (hw : wantS ⟨some d, .move x, ty, pos, af, g⟩ ops n σ = true)
    (k : jq P n ops J K rest (mv σ n d x)) : jq P n ops J K (⟨some d, .move x, ty, pos, af, g⟩ :: rest) σ := jq_val (v := opv (cut n σ) x) hw (fun _ _ => ⟨rfl⟩) k
theorem wj_nil (h : wl P n ops Q TL σ w) : wj P n ops Q J TL [] σ w := ⟨h.out⟩
theorem wj_valE {R : Value → World → Prop} (hw : wantS o ops n σ = true) (h : ∃ v w', Runs P (opv (cut n σ)) o w (.ok (.value v) w') ∧ R v w') (k : ∀ v w', R v w' → J w' ∧ wj P n ops Q J TL rest (updO σ o.dst v) w') : wj P n ops Q J TL (o :: rest) σ w := by
  obtain ⟨v, w', hrun, hr⟩ := h
  refine ⟨?_⟩
  unfold sListJ
  rw [if_pos (by rw [yielded_eq]; exact hw)]
  left
  left
  unfold Oper.wp
  rw [Fr_eval, hrun.out, Oper.upon_value, Fr_put]
  exact ⟨(k v w' hr).1, (k v w' hr).2.out⟩
theorem wj_val (hw : wantS o ops n σ = true) (hrun : Runs P (opv (cut n σ)) o w (.ok (.value v) w)) (hJ : J w) (k : wj P n ops Q J TL rest (updO σ o.dst v) w) : wj P n ops Q J TL (o :: rest) σ w :=
  wj_valE (R := fun u w' => u = v ∧ w' = w) hw ⟨v, w, hrun, rfl, rfl⟩ (by rintro _ _ ⟨rfl, rfl⟩; exact ⟨hJ, k⟩)
theorem wj_skipE {R : World → Prop} (hw : wantS o ops n σ = true) (h : ∃ w', Runs P (opv (cut n σ)) o w (.ok .skip w') ∧ R w') (k : ∀ w', R w' → J w' ∧ wj P n ops Q J TL rest (updO σ o.dst undef) w') : wj P n ops Q J TL (o :: rest) σ w := by
  obtain ⟨w', hrun, hr⟩ := h
  refine ⟨?_⟩
  unfold sListJ
  rw [if_pos (by rw [yielded_eq]; exact hw)]
  left
  left
  unfold Oper.wp
  rw [Fr_eval, hrun.out, Oper.upon_skip, Fr_put]
  exact ⟨(k w' hr).1, (k w' hr).2.out⟩
theorem wj_off (hw : wantS o ops n σ = false) (hJ : J w) (k : wj P n ops Q J TL rest (updO σ o.dst undef) w) : wj P n ops Q J TL (o :: rest) σ w := by
  refine ⟨?_⟩
  unfold sListJ
  rw [if_neg (by rw [yielded_eq]; exact fun h => by rw [show Region.wanted o (yS ops n σ) = wantS o ops n σ from rfl, hw] at h; cases h), Fr_put]
  exact ⟨hJ, k.out⟩
theorem wj_callR {f : FuncId} {args : Array Value} {R : Value → World → Prop} (hw : wantS o ops n σ = true) (hrun : Runs P (opv (cut n σ)) o w (.ok (.enter f args) w)) (hc : CallsR P f args w R)
    (k : ∀ v w1, Below w.heap.size w w1 → R v w1 → J w1 ∧ wj P n ops Q J TL rest (updO σ o.dst v) w1) : wj P n ops Q J TL (o :: rest) σ w := by
  refine ⟨?_⟩
  unfold sListJ
  rw [if_pos (by rw [yielded_eq]; exact hw)]
  left
  left
  unfold Oper.wp
  rw [Fr_eval, hrun.out, Oper.upon_enter]
  refine hc.out.mono fun e w1 ⟨v, he, hb, hR⟩ => ?_
  subst he
  show J w1 ∧ sListJ P ops (lift n Q) J TL rest ((Fr n σ).put o.dst v) w1
  rw [Fr_put]
  exact ⟨(k v w1 hb hR).1, (k v w1 hb hR).2.out⟩
theorem wj_callW {f : FuncId} {args : Array Value} {R : Value → World → Prop} (hw : wantS o ops n σ = true) (hrun : Runs P (opv (cut n σ)) o w (.ok (.enter f args) w)) (hc : CallsW P f args w R)
    (k : ∀ v w1, R v w1 → J w1 ∧ wj P n ops Q J TL rest (updO σ o.dst v) w1) : wj P n ops Q J TL (o :: rest) σ w := by
  refine ⟨?_⟩
  unfold sListJ
  rw [if_pos (by rw [yielded_eq]; exact hw)]
  left
  left
  unfold Oper.wp
  rw [Fr_eval, hrun.out, Oper.upon_enter]
  refine hc.out.mono fun e w1 ⟨v, he, hR⟩ => ?_
  subst he
  show J w1 ∧ sListJ P ops (lift n Q) J TL rest ((Fr n σ).put o.dst v) w1
  rw [Fr_put]
  exact ⟨(k v w1 hR).1, (k v w1 hR).2.out⟩
end
theorem WP_drawJ {P : Program} {n : Nat} {Q : Post} {σ : Nat → Value} {w : World} {id : Nat} {l : List Oper} (J : World → Prop) (hs ts us : List Nat) (hm : P.follows .mixedOrders = true) (hz : Nat.beq (hs.length + (ts.length + us.length)) l.length = true) (hB : permJB .any l.toArray hs ts us = true)
    (hJ : ∀ w', Below w.heap.size w w' → J w')
    (h : ∀ w', Below w.heap.size w w' → jq P n l.toArray J (fun σ' => wj P n l.toArray (calm Q) J (Pm.pk l us) (Pm.pk l ts) σ' w') (Pm.pk l hs) σ) : WP P n (.region id l.toArray true) Q σ w := by
  refine ⟨sw_mono NoPanic.imp (sw_any hm (sAny_of_J (J := J) (nj := fun d => !us.contains d) _ _ _ _ ?_))⟩
  simp only [permJB, Bool.and_eq_true] at hB
  have hq : lift n (calm Q) = NoPanic (lift n Q) := by
    funext e a w
    cases e <;> simp [lift, calm, NoPanic]
  have hb : Below w.heap.size w { w with drawn := w.drawn + 1 } := drew_grown w
  have key := headJ (P := P) (Q := NoPanic (lift n Q)) (md := .any) (J := J) (l := l) (ts := ts) (us := us) hB.1 (fun c a w h => by simp [NoPanic] at h) hs (Array.replicate l.toArray.size false) (Fr n σ) { w with drawn := w.drawn + 1 } hB.2 (fun j oj _ hl => by rw [getD_replicate_false] at hl; cases hl) (hJ _ hb)
  have e : hs.length + (ts.length + us.length) = l.toArray.size := by simpa using Nat.eq_of_beq_eq_true hz
  rw [e] at key
  refine key ?_
  have mono : ∀ (l' : List Oper) (a : Act), wpJ P l.toArray J (fun a => ∃ σ', a = Fr n σ' ∧ wj P n l.toArray (calm Q) J (Pm.pk l us) (Pm.pk l ts) σ' { w with drawn := w.drawn + 1 }) l' a →
      wpJ P l.toArray J (fun a' => sListJ P l.toArray (NoPanic (lift n Q)) J (Pm.pk l us) (Pm.pk l ts) a' { w with drawn := w.drawn + 1 }) l' a := by
    intro l'
    induction l' with
    | nil => rintro a ⟨σ', rfl, hh⟩; rw [← hq]; exact hh.out
    | cons o r ih =>
      intro a ha
      unfold wpJ at ha ⊢
      split
      · rename_i hw; rw [if_pos hw] at ha; obtain ⟨v, h1, h2⟩ := ha; exact ⟨v, h1, ih _ h2⟩
      · rename_i hw; rw [if_neg hw] at ha; exact ih _ ha
  exact mono _ _ (h _ hb).out

section
variable {P : Program} {n : Nat} {ops : Array Oper} {J : World → Prop} {K : (Nat → Value) → Prop} {TL rest : List Oper} {σ : Nat → Value} {d : Option Tmp} {ty : TypeId} {pos : String} {af : Array Edge} {g : Option (Nat × Bool)}
theorem gj_move {x : Operand} (h : jq P n ops J K (⟨d, .move x, ty, pos, af, g⟩ :: rest) σ) : jq P n ops J K (⟨d, .move x, ty, pos, af, g⟩ :: rest) σ := h
theorem gj_assign {x : Operand} (h : jq P n ops J K (⟨d, .assign x, ty, pos, af, g⟩ :: rest) σ) : jq P n ops J K (⟨d, .assign x, ty, pos, af, g⟩ :: rest) σ := h
theorem gj_pick {x y z : Operand} (h : jq P n ops J K (⟨d, .pick x y z, ty, pos, af, g⟩ :: rest) σ) : jq P n ops J K (⟨d, .pick x y z, ty, pos, af, g⟩ :: rest) σ := h
theorem gj_alloc {T : TypeId} (h : jq P n ops J K (⟨d, .alloc T, ty, pos, af, g⟩ :: rest) σ) : jq P n ops J K (⟨d, .alloc T, ty, pos, af, g⟩ :: rest) σ := h
theorem gj_box {T : TypeId} {x : Operand} (h : jq P n ops J K (⟨d, .box T x, ty, pos, af, g⟩ :: rest) σ) : jq P n ops J K (⟨d, .box T x, ty, pos, af, g⟩ :: rest) σ := h
theorem gj_lit {T : TypeId} {m : Nat} {ps : Array (Nat × Operand)} (h : jq P n ops J K (⟨d, .buildSlice T m ps, ty, pos, af, g⟩ :: rest) σ) : jq P n ops J K (⟨d, .buildSlice T m ps, ty, pos, af, g⟩ :: rest) σ := h
theorem gj_build {T : TypeId} {ps : Array (Nat × Operand)} (h : jq P n ops J K (⟨d, .build T ps, ty, pos, af, g⟩ :: rest) σ) : jq P n ops J K (⟨d, .build T ps, ty, pos, af, g⟩ :: rest) σ := h
theorem gj_load {T : TypeId} {x : Operand} (h : jq P n ops J K (⟨d, .load T x, ty, pos, af, g⟩ :: rest) σ) : jq P n ops J K (⟨d, .load T x, ty, pos, af, g⟩ :: rest) σ := h
theorem gj_store {T : TypeId} {x y : Operand} (h : jq P n ops J K (⟨d, .store T x y, ty, pos, af, g⟩ :: rest) σ) : jq P n ops J K (⟨d, .store T x y, ty, pos, af, g⟩ :: rest) σ := h
theorem gj_un {b : UnOp} {T : TypeId} {x : Operand} (h : jq P n ops J K (⟨d, .unOp b T x, ty, pos, af, g⟩ :: rest) σ) : jq P n ops J K (⟨d, .unOp b T x, ty, pos, af, g⟩ :: rest) σ := h
theorem gj_convert {T T' : TypeId} {x : Operand} (h : jq P n ops J K (⟨d, .convert T T' x, ty, pos, af, g⟩ :: rest) σ) : jq P n ops J K (⟨d, .convert T T' x, ty, pos, af, g⟩ :: rest) σ := h
theorem gj_makeFunc {f : Fn} {a b : Array Operand} (h : jq P n ops J K (⟨d, .makeFunc f a b, ty, pos, af, g⟩ :: rest) σ) : jq P n ops J K (⟨d, .makeFunc f a b, ty, pos, af, g⟩ :: rest) σ := h
theorem gj_makeSlice {T : TypeId} {x y : Operand} (h : jq P n ops J K (⟨d, .makeSlice T x y, ty, pos, af, g⟩ :: rest) σ) : jq P n ops J K (⟨d, .makeSlice T x y, ty, pos, af, g⟩ :: rest) σ := h
theorem gj_slice {T : TypeId} {x : Operand} {a b c : Option Operand} (h : jq P n ops J K (⟨d, .slice T x a b c, ty, pos, af, g⟩ :: rest) σ) : jq P n ops J K (⟨d, .slice T x a b c, ty, pos, af, g⟩ :: rest) σ := h
theorem gj_fieldAddr {T : TypeId} {x : Operand} {j : Nat} (h : jq P n ops J K (⟨d, .fieldAddr T x j, ty, pos, af, g⟩ :: rest) σ) : jq P n ops J K (⟨d, .fieldAddr T x j, ty, pos, af, g⟩ :: rest) σ := h
theorem gj_field {T : TypeId} {x : Operand} {j : Nat} (h : jq P n ops J K (⟨d, .field T x j, ty, pos, af, g⟩ :: rest) σ) : jq P n ops J K (⟨d, .field T x j, ty, pos, af, g⟩ :: rest) σ := h
theorem gj_indexAddr {T : TypeId} {x y : Operand} (h : jq P n ops J K (⟨d, .indexAddr T x y, ty, pos, af, g⟩ :: rest) σ) : jq P n ops J K (⟨d, .indexAddr T x y, ty, pos, af, g⟩ :: rest) σ := h
theorem gj_index {T : TypeId} {x y : Operand} (h : jq P n ops J K (⟨d, .index T x y, ty, pos, af, g⟩ :: rest) σ) : jq P n ops J K (⟨d, .index T x y, ty, pos, af, g⟩ :: rest) σ := h
theorem gj_extract {x : Operand} {j : Nat} (h : jq P n ops J K (⟨d, .extract x j, ty, pos, af, g⟩ :: rest) σ) : jq P n ops J K (⟨d, .extract x j, ty, pos, af, g⟩ :: rest) σ := h
theorem gj_callV {x : Operand} {as : Array Operand} {ts : Array TypeId} (h : jq P n ops J K (⟨d, .call { callee := .value x, args := as, argTypes := ts }, ty, pos, af, g⟩ :: rest) σ) : jq P n ops J K (⟨d, .call { callee := .value x, args := as, argTypes := ts }, ty, pos, af, g⟩ :: rest) σ := h
theorem gj_b_add {T T' : TypeId} {x y : Operand} (h : jq P n ops J K (⟨d, .binOp .add T x y T', ty, pos, af, g⟩ :: rest) σ) : jq P n ops J K (⟨d, .binOp .add T x y T', ty, pos, af, g⟩ :: rest) σ := h
theorem gj_b_sub {T T' : TypeId} {x y : Operand} (h : jq P n ops J K (⟨d, .binOp .sub T x y T', ty, pos, af, g⟩ :: rest) σ) : jq P n ops J K (⟨d, .binOp .sub T x y T', ty, pos, af, g⟩ :: rest) σ := h
theorem gj_b_mul {T T' : TypeId} {x y : Operand} (h : jq P n ops J K (⟨d, .binOp .mul T x y T', ty, pos, af, g⟩ :: rest) σ) : jq P n ops J K (⟨d, .binOp .mul T x y T', ty, pos, af, g⟩ :: rest) σ := h
theorem gj_b_quo {T T' : TypeId} {x y : Operand} (h : jq P n ops J K (⟨d, .binOp .quo T x y T', ty, pos, af, g⟩ :: rest) σ) : jq P n ops J K (⟨d, .binOp .quo T x y T', ty, pos, af, g⟩ :: rest) σ := h
theorem gj_b_rem {T T' : TypeId} {x y : Operand} (h : jq P n ops J K (⟨d, .binOp .rem T x y T', ty, pos, af, g⟩ :: rest) σ) : jq P n ops J K (⟨d, .binOp .rem T x y T', ty, pos, af, g⟩ :: rest) σ := h
theorem gj_b_eql {T T' : TypeId} {x y : Operand} (h : jq P n ops J K (⟨d, .binOp .eql T x y T', ty, pos, af, g⟩ :: rest) σ) : jq P n ops J K (⟨d, .binOp .eql T x y T', ty, pos, af, g⟩ :: rest) σ := h
theorem gj_b_neq {T T' : TypeId} {x y : Operand} (h : jq P n ops J K (⟨d, .binOp .neq T x y T', ty, pos, af, g⟩ :: rest) σ) : jq P n ops J K (⟨d, .binOp .neq T x y T', ty, pos, af, g⟩ :: rest) σ := h
theorem gj_b_lss {T T' : TypeId} {x y : Operand} (h : jq P n ops J K (⟨d, .binOp .lss T x y T', ty, pos, af, g⟩ :: rest) σ) : jq P n ops J K (⟨d, .binOp .lss T x y T', ty, pos, af, g⟩ :: rest) σ := h
theorem gj_b_leq {T T' : TypeId} {x y : Operand} (h : jq P n ops J K (⟨d, .binOp .leq T x y T', ty, pos, af, g⟩ :: rest) σ) : jq P n ops J K (⟨d, .binOp .leq T x y T', ty, pos, af, g⟩ :: rest) σ := h
theorem gj_b_gtr {T T' : TypeId} {x y : Operand} (h : jq P n ops J K (⟨d, .binOp .gtr T x y T', ty, pos, af, g⟩ :: rest) σ) : jq P n ops J K (⟨d, .binOp .gtr T x y T', ty, pos, af, g⟩ :: rest) σ := h
theorem gj_b_geq {T T' : TypeId} {x y : Operand} (h : jq P n ops J K (⟨d, .binOp .geq T x y T', ty, pos, af, g⟩ :: rest) σ) : jq P n ops J K (⟨d, .binOp .geq T x y T', ty, pos, af, g⟩ :: rest) σ := h
theorem gj_b_and {T T' : TypeId} {x y : Operand} (h : jq P n ops J K (⟨d, .binOp .and T x y T', ty, pos, af, g⟩ :: rest) σ) : jq P n ops J K (⟨d, .binOp .and T x y T', ty, pos, af, g⟩ :: rest) σ := h
theorem gj_b_or {T T' : TypeId} {x y : Operand} (h : jq P n ops J K (⟨d, .binOp .or T x y T', ty, pos, af, g⟩ :: rest) σ) : jq P n ops J K (⟨d, .binOp .or T x y T', ty, pos, af, g⟩ :: rest) σ := h
theorem gj_b_xor {T T' : TypeId} {x y : Operand} (h : jq P n ops J K (⟨d, .binOp .xor T x y T', ty, pos, af, g⟩ :: rest) σ) : jq P n ops J K (⟨d, .binOp .xor T x y T', ty, pos, af, g⟩ :: rest) σ := h
theorem gj_b_andNot {T T' : TypeId} {x y : Operand} (h : jq P n ops J K (⟨d, .binOp .andNot T x y T', ty, pos, af, g⟩ :: rest) σ) : jq P n ops J K (⟨d, .binOp .andNot T x y T', ty, pos, af, g⟩ :: rest) σ := h
theorem gj_b_shl {T T' : TypeId} {x y : Operand} (h : jq P n ops J K (⟨d, .binOp .shl T x y T', ty, pos, af, g⟩ :: rest) σ) : jq P n ops J K (⟨d, .binOp .shl T x y T', ty, pos, af, g⟩ :: rest) σ := h
theorem gj_b_shr {T T' : TypeId} {x y : Operand} (h : jq P n ops J K (⟨d, .binOp .shr T x y T', ty, pos, af, g⟩ :: rest) σ) : jq P n ops J K (⟨d, .binOp .shr T x y T', ty, pos, af, g⟩ :: rest) σ := h
theorem gj_c_len {as : Array Operand} {ts : Array TypeId} (h : jq P n ops J K (⟨d, .call { callee := .builtin .len, args := as, argTypes := ts }, ty, pos, af, g⟩ :: rest) σ) : jq P n ops J K (⟨d, .call { callee := .builtin .len, args := as, argTypes := ts }, ty, pos, af, g⟩ :: rest) σ := h
theorem gj_c_append {as : Array Operand} {ts : Array TypeId} (h : jq P n ops J K (⟨d, .call { callee := .builtin .append, args := as, argTypes := ts }, ty, pos, af, g⟩ :: rest) σ) : jq P n ops J K (⟨d, .call { callee := .builtin .append, args := as, argTypes := ts }, ty, pos, af, g⟩ :: rest) σ := h
theorem gj_c_max {as : Array Operand} {ts : Array TypeId} (h : jq P n ops J K (⟨d, .call { callee := .builtin .max, args := as, argTypes := ts }, ty, pos, af, g⟩ :: rest) σ) : jq P n ops J K (⟨d, .call { callee := .builtin .max, args := as, argTypes := ts }, ty, pos, af, g⟩ :: rest) σ := h
theorem gj_c_min {as : Array Operand} {ts : Array TypeId} (h : jq P n ops J K (⟨d, .call { callee := .builtin .min, args := as, argTypes := ts }, ty, pos, af, g⟩ :: rest) σ) : jq P n ops J K (⟨d, .call { callee := .builtin .min, args := as, argTypes := ts }, ty, pos, af, g⟩ :: rest) σ := h
theorem gj_c_copy {as : Array Operand} {ts : Array TypeId} (h : jq P n ops J K (⟨d, .call { callee := .builtin .copy, args := as, argTypes := ts }, ty, pos, af, g⟩ :: rest) σ) : jq P n ops J K (⟨d, .call { callee := .builtin .copy, args := as, argTypes := ts }, ty, pos, af, g⟩ :: rest) σ := h
theorem gj_c_delete {as : Array Operand} {ts : Array TypeId} (h : jq P n ops J K (⟨d, .call { callee := .builtin .delete, args := as, argTypes := ts }, ty, pos, af, g⟩ :: rest) σ) : jq P n ops J K (⟨d, .call { callee := .builtin .delete, args := as, argTypes := ts }, ty, pos, af, g⟩ :: rest) σ := h
theorem gj_c_cap {as : Array Operand} {ts : Array TypeId} (h : jq P n ops J K (⟨d, .call { callee := .builtin .cap, args := as, argTypes := ts }, ty, pos, af, g⟩ :: rest) σ) : jq P n ops J K (⟨d, .call { callee := .builtin .cap, args := as, argTypes := ts }, ty, pos, af, g⟩ :: rest) σ := h
theorem gj_nilCheck {x : Operand} (h : jq P n ops J K (⟨d, .nilCheck x, ty, pos, af, g⟩ :: rest) σ) : jq P n ops J K (⟨d, .nilCheck x, ty, pos, af, g⟩ :: rest) σ := h
theorem gj_guard {o : Op} {z : Nat × Bool} (h : jq P n ops J K (⟨d, o, ty, pos, af, some z⟩ :: rest) σ) : jq P n ops J K (⟨d, o, ty, pos, af, some z⟩ :: rest) σ := h
variable {Q : Post} {w : World}
theorem gw_move {x : Operand} (h : wj P n ops Q J TL (⟨d, .move x, ty, pos, af, g⟩ :: rest) σ w) : wj P n ops Q J TL (⟨d, .move x, ty, pos, af, g⟩ :: rest) σ w := h
theorem gw_assign {x : Operand} (h : wj P n ops Q J TL (⟨d, .assign x, ty, pos, af, g⟩ :: rest) σ w) : wj P n ops Q J TL (⟨d, .assign x, ty, pos, af, g⟩ :: rest) σ w := h
theorem gw_pick {x y z : Operand} (h : wj P n ops Q J TL (⟨d, .pick x y z, ty, pos, af, g⟩ :: rest) σ w) : wj P n ops Q J TL (⟨d, .pick x y z, ty, pos, af, g⟩ :: rest) σ w := h
theorem gw_alloc {T : TypeId} (h : wj P n ops Q J TL (⟨d, .alloc T, ty, pos, af, g⟩ :: rest) σ w) : wj P n ops Q J TL (⟨d, .alloc T, ty, pos, af, g⟩ :: rest) σ w := h
theorem gw_box {T : TypeId} {x : Operand} (h : wj P n ops Q J TL (⟨d, .box T x, ty, pos, af, g⟩ :: rest) σ w) : wj P n ops Q J TL (⟨d, .box T x, ty, pos, af, g⟩ :: rest) σ w := h
theorem gw_lit {T : TypeId} {m : Nat} {ps : Array (Nat × Operand)} (h : wj P n ops Q J TL (⟨d, .buildSlice T m ps, ty, pos, af, g⟩ :: rest) σ w) : wj P n ops Q J TL (⟨d, .buildSlice T m ps, ty, pos, af, g⟩ :: rest) σ w := h
theorem gw_build {T : TypeId} {ps : Array (Nat × Operand)} (h : wj P n ops Q J TL (⟨d, .build T ps, ty, pos, af, g⟩ :: rest) σ w) : wj P n ops Q J TL (⟨d, .build T ps, ty, pos, af, g⟩ :: rest) σ w := h
theorem gw_load {T : TypeId} {x : Operand} (h : wj P n ops Q J TL (⟨d, .load T x, ty, pos, af, g⟩ :: rest) σ w) : wj P n ops Q J TL (⟨d, .load T x, ty, pos, af, g⟩ :: rest) σ w := h
theorem gw_store {T : TypeId} {x y : Operand} (h : wj P n ops Q J TL (⟨d, .store T x y, ty, pos, af, g⟩ :: rest) σ w) : wj P n ops Q J TL (⟨d, .store T x y, ty, pos, af, g⟩ :: rest) σ w := h
theorem gw_un {b : UnOp} {T : TypeId} {x : Operand} (h : wj P n ops Q J TL (⟨d, .unOp b T x, ty, pos, af, g⟩ :: rest) σ w) : wj P n ops Q J TL (⟨d, .unOp b T x, ty, pos, af, g⟩ :: rest) σ w := h
theorem gw_convert {T T' : TypeId} {x : Operand} (h : wj P n ops Q J TL (⟨d, .convert T T' x, ty, pos, af, g⟩ :: rest) σ w) : wj P n ops Q J TL (⟨d, .convert T T' x, ty, pos, af, g⟩ :: rest) σ w := h
theorem gw_makeFunc {f : Fn} {a b : Array Operand} (h : wj P n ops Q J TL (⟨d, .makeFunc f a b, ty, pos, af, g⟩ :: rest) σ w) : wj P n ops Q J TL (⟨d, .makeFunc f a b, ty, pos, af, g⟩ :: rest) σ w := h
theorem gw_makeSlice {T : TypeId} {x y : Operand} (h : wj P n ops Q J TL (⟨d, .makeSlice T x y, ty, pos, af, g⟩ :: rest) σ w) : wj P n ops Q J TL (⟨d, .makeSlice T x y, ty, pos, af, g⟩ :: rest) σ w := h
theorem gw_slice {T : TypeId} {x : Operand} {a b c : Option Operand} (h : wj P n ops Q J TL (⟨d, .slice T x a b c, ty, pos, af, g⟩ :: rest) σ w) : wj P n ops Q J TL (⟨d, .slice T x a b c, ty, pos, af, g⟩ :: rest) σ w := h
theorem gw_fieldAddr {T : TypeId} {x : Operand} {j : Nat} (h : wj P n ops Q J TL (⟨d, .fieldAddr T x j, ty, pos, af, g⟩ :: rest) σ w) : wj P n ops Q J TL (⟨d, .fieldAddr T x j, ty, pos, af, g⟩ :: rest) σ w := h
theorem gw_field {T : TypeId} {x : Operand} {j : Nat} (h : wj P n ops Q J TL (⟨d, .field T x j, ty, pos, af, g⟩ :: rest) σ w) : wj P n ops Q J TL (⟨d, .field T x j, ty, pos, af, g⟩ :: rest) σ w := h
theorem gw_indexAddr {T : TypeId} {x y : Operand} (h : wj P n ops Q J TL (⟨d, .indexAddr T x y, ty, pos, af, g⟩ :: rest) σ w) : wj P n ops Q J TL (⟨d, .indexAddr T x y, ty, pos, af, g⟩ :: rest) σ w := h
theorem gw_index {T : TypeId} {x y : Operand} (h : wj P n ops Q J TL (⟨d, .index T x y, ty, pos, af, g⟩ :: rest) σ w) : wj P n ops Q J TL (⟨d, .index T x y, ty, pos, af, g⟩ :: rest) σ w := h
theorem gw_extract {x : Operand} {j : Nat} (h : wj P n ops Q J TL (⟨d, .extract x j, ty, pos, af, g⟩ :: rest) σ w) : wj P n ops Q J TL (⟨d, .extract x j, ty, pos, af, g⟩ :: rest) σ w := h
theorem gw_callV {x : Operand} {as : Array Operand} {ts : Array TypeId} (h : wj P n ops Q J TL (⟨d, .call { callee := .value x, args := as, argTypes := ts }, ty, pos, af, g⟩ :: rest) σ w) : wj P n ops Q J TL (⟨d, .call { callee := .value x, args := as, argTypes := ts }, ty, pos, af, g⟩ :: rest) σ w := h
theorem gw_b_add {T T' : TypeId} {x y : Operand} (h : wj P n ops Q J TL (⟨d, .binOp .add T x y T', ty, pos, af, g⟩ :: rest) σ w) : wj P n ops Q J TL (⟨d, .binOp .add T x y T', ty, pos, af, g⟩ :: rest) σ w := h
theorem gw_b_sub {T T' : TypeId} {x y : Operand} (h : wj P n ops Q J TL (⟨d, .binOp .sub T x y T', ty, pos, af, g⟩ :: rest) σ w) : wj P n ops Q J TL (⟨d, .binOp .sub T x y T', ty, pos, af, g⟩ :: rest) σ w := h
theorem gw_b_mul {T T' : TypeId} {x y : Operand} (h : wj P n ops Q J TL (⟨d, .binOp .mul T x y T', ty, pos, af, g⟩ :: rest) σ w) : wj P n ops Q J TL (⟨d, .binOp .mul T x y T', ty, pos, af, g⟩ :: rest) σ w := h
theorem gw_b_quo {T T' : TypeId} {x y : Operand} (h : wj P n ops Q J TL (⟨d, .binOp .quo T x y T', ty, pos, af, g⟩ :: rest) σ w) : wj P n ops Q J TL (⟨d, .binOp .quo T x y T', ty, pos, af, g⟩ :: rest) σ w := h
theorem gw_b_rem {T T' : TypeId} {x y : Operand} (h : wj P n ops Q J TL (⟨d, .binOp .rem T x y T', ty, pos, af, g⟩ :: rest) σ w) : wj P n ops Q J TL (⟨d, .binOp .rem T x y T', ty, pos, af, g⟩ :: rest) σ w := h
theorem gw_b_eql {T T' : TypeId} {x y : Operand} (h : wj P n ops Q J TL (⟨d, .binOp .eql T x y T', ty, pos, af, g⟩ :: rest) σ w) : wj P n ops Q J TL (⟨d, .binOp .eql T x y T', ty, pos, af, g⟩ :: rest) σ w := h
theorem gw_b_neq {T T' : TypeId} {x y : Operand} (h : wj P n ops Q J TL (⟨d, .binOp .neq T x y T', ty, pos, af, g⟩ :: rest) σ w) : wj P n ops Q J TL (⟨d, .binOp .neq T x y T', ty, pos, af, g⟩ :: rest) σ w := h
theorem gw_b_lss {T T' : TypeId} {x y : Operand} (h : wj P n ops Q J TL (⟨d, .binOp .lss T x y T', ty, pos, af, g⟩ :: rest) σ w) : wj P n ops Q J TL (⟨d, .binOp .lss T x y T', ty, pos, af, g⟩ :: rest) σ w := h
theorem gw_b_leq {T T' : TypeId} {x y : Operand} (h : wj P n ops Q J TL (⟨d, .binOp .leq T x y T', ty, pos, af, g⟩ :: rest) σ w) : wj P n ops Q J TL (⟨d, .binOp .leq T x y T', ty, pos, af, g⟩ :: rest) σ w := h
theorem gw_b_gtr {T T' : TypeId} {x y : Operand} (h : wj P n ops Q J TL (⟨d, .binOp .gtr T x y T', ty, pos, af, g⟩ :: rest) σ w) : wj P n ops Q J TL (⟨d, .binOp .gtr T x y T', ty, pos, af, g⟩ :: rest) σ w := h
theorem gw_b_geq {T T' : TypeId} {x y : Operand} (h : wj P n ops Q J TL (⟨d, .binOp .geq T x y T', ty, pos, af, g⟩ :: rest) σ w) : wj P n ops Q J TL (⟨d, .binOp .geq T x y T', ty, pos, af, g⟩ :: rest) σ w := h
theorem gw_b_and {T T' : TypeId} {x y : Operand} (h : wj P n ops Q J TL (⟨d, .binOp .and T x y T', ty, pos, af, g⟩ :: rest) σ w) : wj P n ops Q J TL (⟨d, .binOp .and T x y T', ty, pos, af, g⟩ :: rest) σ w := h
theorem gw_b_or {T T' : TypeId} {x y : Operand} (h : wj P n ops Q J TL (⟨d, .binOp .or T x y T', ty, pos, af, g⟩ :: rest) σ w) : wj P n ops Q J TL (⟨d, .binOp .or T x y T', ty, pos, af, g⟩ :: rest) σ w := h
theorem gw_b_xor {T T' : TypeId} {x y : Operand} (h : wj P n ops Q J TL (⟨d, .binOp .xor T x y T', ty, pos, af, g⟩ :: rest) σ w) : wj P n ops Q J TL (⟨d, .binOp .xor T x y T', ty, pos, af, g⟩ :: rest) σ w := h
theorem gw_b_andNot {T T' : TypeId} {x y : Operand} (h : wj P n ops Q J TL (⟨d, .binOp .andNot T x y T', ty, pos, af, g⟩ :: rest) σ w) : wj P n ops Q J TL (⟨d, .binOp .andNot T x y T', ty, pos, af, g⟩ :: rest) σ w := h
theorem gw_b_shl {T T' : TypeId} {x y : Operand} (h : wj P n ops Q J TL (⟨d, .binOp .shl T x y T', ty, pos, af, g⟩ :: rest) σ w) : wj P n ops Q J TL (⟨d, .binOp .shl T x y T', ty, pos, af, g⟩ :: rest) σ w := h
theorem gw_b_shr {T T' : TypeId} {x y : Operand} (h : wj P n ops Q J TL (⟨d, .binOp .shr T x y T', ty, pos, af, g⟩ :: rest) σ w) : wj P n ops Q J TL (⟨d, .binOp .shr T x y T', ty, pos, af, g⟩ :: rest) σ w := h
theorem gw_c_len {as : Array Operand} {ts : Array TypeId} (h : wj P n ops Q J TL (⟨d, .call { callee := .builtin .len, args := as, argTypes := ts }, ty, pos, af, g⟩ :: rest) σ w) : wj P n ops Q J TL (⟨d, .call { callee := .builtin .len, args := as, argTypes := ts }, ty, pos, af, g⟩ :: rest) σ w := h
theorem gw_c_append {as : Array Operand} {ts : Array TypeId} (h : wj P n ops Q J TL (⟨d, .call { callee := .builtin .append, args := as, argTypes := ts }, ty, pos, af, g⟩ :: rest) σ w) : wj P n ops Q J TL (⟨d, .call { callee := .builtin .append, args := as, argTypes := ts }, ty, pos, af, g⟩ :: rest) σ w := h
theorem gw_c_max {as : Array Operand} {ts : Array TypeId} (h : wj P n ops Q J TL (⟨d, .call { callee := .builtin .max, args := as, argTypes := ts }, ty, pos, af, g⟩ :: rest) σ w) : wj P n ops Q J TL (⟨d, .call { callee := .builtin .max, args := as, argTypes := ts }, ty, pos, af, g⟩ :: rest) σ w := h
theorem gw_c_min {as : Array Operand} {ts : Array TypeId} (h : wj P n ops Q J TL (⟨d, .call { callee := .builtin .min, args := as, argTypes := ts }, ty, pos, af, g⟩ :: rest) σ w) : wj P n ops Q J TL (⟨d, .call { callee := .builtin .min, args := as, argTypes := ts }, ty, pos, af, g⟩ :: rest) σ w := h
theorem gw_c_copy {as : Array Operand} {ts : Array TypeId} (h : wj P n ops Q J TL (⟨d, .call { callee := .builtin .copy, args := as, argTypes := ts }, ty, pos, af, g⟩ :: rest) σ w) : wj P n ops Q J TL (⟨d, .call { callee := .builtin .copy, args := as, argTypes := ts }, ty, pos, af, g⟩ :: rest) σ w := h
theorem gw_c_delete {as : Array Operand} {ts : Array TypeId} (h : wj P n ops Q J TL (⟨d, .call { callee := .builtin .delete, args := as, argTypes := ts }, ty, pos, af, g⟩ :: rest) σ w) : wj P n ops Q J TL (⟨d, .call { callee := .builtin .delete, args := as, argTypes := ts }, ty, pos, af, g⟩ :: rest) σ w := h
theorem gw_c_cap {as : Array Operand} {ts : Array TypeId} (h : wj P n ops Q J TL (⟨d, .call { callee := .builtin .cap, args := as, argTypes := ts }, ty, pos, af, g⟩ :: rest) σ w) : wj P n ops Q J TL (⟨d, .call { callee := .builtin .cap, args := as, argTypes := ts }, ty, pos, af, g⟩ :: rest) σ w := h
theorem gw_nilCheck {x : Operand} (h : wj P n ops Q J TL (⟨d, .nilCheck x, ty, pos, af, g⟩ :: rest) σ w) : wj P n ops Q J TL (⟨d, .nilCheck x, ty, pos, af, g⟩ :: rest) σ w := h
theorem gw_guard {o : Op} {z : Nat × Bool} (h : wj P n ops Q J TL (⟨d, o, ty, pos, af, some z⟩ :: rest) σ w) : wj P n ops Q J TL (⟨d, o, ty, pos, af, some z⟩ :: rest) σ w := h
end
end Go.Gx
/-
  A drawn region with two writes in either order, writes behind them in order, and plain operations in any order at its end; loads float beside all of them.
-/
namespace Go.Gx
open Go Go.RowKit
set_option linter.unusedVariables false
set_option linter.unusedSimpArgs false
def sListJE (P : Program) (ops : Array Oper) (Q : Exit → Act → World → Prop) (J : World → Prop) (E : List Oper) : List Oper → Act → World → Prop
  | [], a, w => wpJ P ops J (fun a' => Q .normal a' w) E a
  | o :: rest, a, w => if Region.wanted o (yielded ops a.tmps) = true then Oper.sp P o a w (fun a' w' => J w' ∧ sListJE P ops Q J E rest a' w') Q else J w ∧ sListJE P ops Q J E rest (a.put o.dst undef) w
section
variable {P : Program} {ops : Array Oper} {Q : Exit → Act → World → Prop} {md : Region.Mode} {J : World → Prop}
def seqEB (md : Region.Mode) (ops : Array Oper) (es : List Nat) : List Nat → Array Bool → Bool
  | [], listed => headJB md ops [] [] es listed
  | k :: ks, listed => decide (Region.ready md ops listed = [k]) && seqEB md ops es ks (listed.setIfInBounds k true)
def headEB (md : Region.Mode) (ops : Array Oper) (x y : Nat) (ts es : List Nat) : List Nat → Array Bool → Bool
  | [], listed => decide (Region.ready md ops listed = [x, y]) && seqEB md ops es (y :: ts) (listed.setIfInBounds x true) && seqEB md ops es (x :: ts) (listed.setIfInBounds y true)
  | k :: ks, listed => (Region.ready md ops listed).contains k && Region.free md ops listed k && headEB md ops x y ts es ks (listed.setIfInBounds k true)
def permEB (md : Region.Mode) (ops : Array Oper) (hs : List Nat) (x y : Nat) (ts es : List Nat) : Bool := Region.noSelect ops && headEB md ops x y ts es hs (Array.replicate ops.size false)
theorem seqJE {l : List Oper} {es : List Nat} (hsel : Region.noSelect l.toArray = true) (hQ : ∀ c a w, ¬ Q (.panic c) a w) : ∀ (ks : List Nat) (listed : Array Bool) (a : Act) (w : World),
    seqEB md l.toArray es ks listed = true → ClosedG md l.toArray listed → J w → sListJE P l.toArray Q J (Pm.pk l es) (Pm.pk l ks) a w → sAnyJ P md l.toArray Q J (fun d => !([] : List Nat).contains d) (ks.length + es.length) listed a w
  | [], listed, a, w, hB, hc, hJ, h => by
    have := headJ (P := P) (Q := Q) (md := md) (J := J) (l := l) (ts := []) (us := []) hsel hQ es listed a w hB hc hJ h
    simpa using this
  | k :: ks, listed, a, w, hB, hc, hJ, h => by
    simp only [seqEB, Bool.and_eq_true, decide_eq_true_eq] at hB
    have e : (k :: ks).length + es.length = ks.length + es.length + 1 := by simp; omega
    rw [e]
    refine ⟨fun h1 => (by rw [hB.1] at h1; cases h1), fun i hi => ?_⟩
    have hi0 := hi
    obtain ⟨hun, o, h0, _⟩ := mem_ready.1 hi
    rw [hB.1] at hi
    have hik : i = k := by simpa using hi
    subst hik
    rw [show Pm.pk l (i :: ks) = o :: Pm.pk l ks by rw [Pm.pk, Pm.pk_get h0]] at h
    have hw : sOp P l.toArray Q i (fun a' w' => J w' ∧ sListJE P l.toArray Q J (Pm.pk l es) (Pm.pk l ks) a' w') a w := by unfold sOp; simp only [h0]; exact h
    exact sOp_mono (fun a' w' h' => ⟨fun _ => h'.1, seqJE hsel hQ ks _ a' w' hB.2 (hc.set hi0) h'.1 h'.2⟩) hw
theorem seqE2 {l : List Oper} {es ts : List Nat} {x y : Nat} (hsel : Region.noSelect l.toArray = true) (hQ : ∀ c a w, ¬ Q (.panic c) a w) (listed : Array Bool) (a : Act) (w : World)
    (hB : headEB md l.toArray x y ts es [] listed = true) (hc : ClosedG md l.toArray listed) (h : sListJE P l.toArray Q J (Pm.pk l es) (Pm.pk l (x :: y :: ts)) a w ∧ sListJE P l.toArray Q J (Pm.pk l es) (Pm.pk l (y :: x :: ts)) a w) : sAnyJ P md l.toArray Q J (fun d => !([] : List Nat).contains d) (ts.length + es.length + 2) listed a w := by
  simp only [headEB, Bool.and_eq_true, decide_eq_true_eq] at hB
  obtain ⟨⟨hr, h1⟩, h2⟩ := hB
  have e : ts.length + es.length + 2 = (ts.length + es.length + 1) + 1 := rfl
  rw [e]
  refine ⟨fun h1 => (by rw [hr] at h1; cases h1), fun i hi => ?_⟩
  have hi0 := hi
  obtain ⟨hun, o, h0, _⟩ := mem_ready.1 hi
  rw [hr] at hi
  have hlen : ∀ z : Nat, (z :: ts).length + es.length = ts.length + es.length + 1 := fun z => by simp; omega
  have hik : i = x ∨ i = y := by simpa using hi
  rcases hik with hik | hik
  · subst hik
    have h := h.1
    rw [Pm.pk, Pm.pk_get h0] at h
    have hw : sOp P l.toArray Q i (fun a' w' => J w' ∧ sListJE P l.toArray Q J (Pm.pk l es) (Pm.pk l (y :: ts)) a' w') a w := by unfold sOp; simp only [h0]; exact h
    exact sOp_mono (fun a' w' h' => ⟨fun _ => h'.1, by rw [← hlen y]; exact seqJE hsel hQ (y :: ts) _ a' w' h1 (hc.set hi0) h'.1 h'.2⟩) hw
  · subst hik
    have h := h.2
    rw [Pm.pk, Pm.pk_get h0] at h
    have hw : sOp P l.toArray Q i (fun a' w' => J w' ∧ sListJE P l.toArray Q J (Pm.pk l es) (Pm.pk l (x :: ts)) a' w') a w := by unfold sOp; simp only [h0]; exact h
    exact sOp_mono (fun a' w' h' => ⟨fun _ => h'.1, by rw [← hlen x]; exact seqJE hsel hQ (x :: ts) _ a' w' h2 (hc.set hi0) h'.1 h'.2⟩) hw
theorem headE {l : List Oper} {ts es : List Nat} {x y : Nat} (hsel : Region.noSelect l.toArray = true) (hQ : ∀ c a w, ¬ Q (.panic c) a w) :
    ∀ (ks : List Nat) (listed : Array Bool) (a : Act) (w : World), headEB md l.toArray x y ts es ks listed = true → ClosedG md l.toArray listed → J w →
    wpJ P l.toArray J (fun a' => sListJE P l.toArray Q J (Pm.pk l es) (Pm.pk l (x :: y :: ts)) a' w ∧ sListJE P l.toArray Q J (Pm.pk l es) (Pm.pk l (y :: x :: ts)) a' w) (Pm.pk l ks) a → sAnyJ P md l.toArray Q J (fun d => !([] : List Nat).contains d) (ks.length + (ts.length + es.length + 2)) listed a w
  | [], listed, a, w, hB, hc, hJ, h => by
    simp only [List.length_nil, Nat.zero_add]
    exact seqE2 hsel hQ listed a w hB hc h
  | k :: ks, listed, a, w, hB, hc, hJ, h => by
    simp only [headEB, Bool.and_eq_true] at hB
    obtain ⟨⟨hr, hf⟩, hB'⟩ := hB
    have hr' : k ∈ Region.ready md l.toArray listed := by simpa using hr
    obtain ⟨_, o, h0, _⟩ := mem_ready.1 hr'
    rw [show Pm.pk l (k :: ks) = o :: Pm.pk l ks by rw [Pm.pk, Pm.pk_get h0]] at h
    have hy : ∃ v, YieldsJ P l.toArray J o v a ∧ wpJ P l.toArray J (fun a' => sListJE P l.toArray Q J (Pm.pk l es) (Pm.pk l (x :: y :: ts)) a' w ∧ sListJE P l.toArray Q J (Pm.pk l es) (Pm.pk l (y :: x :: ts)) a' w) (Pm.pk l ks) (a.put o.dst v) := by
      unfold wpJ at h
      by_cases hw : Region.wanted o (yielded l.toArray a.tmps) = true
      · rw [if_pos hw] at h
        obtain ⟨v, h1, h2⟩ := h
        exact ⟨v, .inl ⟨hw, h1⟩, h2⟩
      · rw [if_neg hw] at h
        exact ⟨undef, .inr ⟨by simpa using hw, rfl⟩, h⟩
    obtain ⟨v, hy, hK⟩ := hy
    have hrec := headE hsel hQ ks _ (a.put o.dst v) w hB' (hc.set hr') hJ hK
    have e : (k :: ks).length + (ts.length + es.length + 2) = ks.length + (ts.length + es.length + 2) + 1 := by simp; omega
    rw [e]
    exact firstJ h0 (Region.noSelect_spec hsel) (fun c a w h => absurd h (hQ _ _ _)) (fun d hdu hds => by simp at hdu) _ listed a w (Region.free_spec h0 hf) hc hr' hy hJ hrec
end
/-- The writes, one behind the other, and the plain end. -/
structure we (P : Program) (n : Nat) (ops : Array Oper) (Q : Post) (J : World → Prop) (E l : List Oper) (σ : Nat → Value) (w : World) : Prop where mk :: (out : sListJE P ops (lift n Q) J E l (Fr n σ) w)
section
variable {P : Program} {n : Nat} {ops : Array Oper} {Q : Post} {J : World → Prop} {E rest : List Oper} {σ : Nat → Value} {w w' : World} {o : Oper} {v : Value}
theorem we_nil (h : jq P n ops J (fun σ' => Q .normal σ' w) E σ) : we P n ops Q J E [] σ w := by
  refine ⟨?_⟩
  have mono : ∀ (l' : List Oper) (a : Act), wpJ P ops J (fun a => ∃ σ', a = Fr n σ' ∧ Q .normal σ' w) l' a → wpJ P ops J (fun a' => lift n Q .normal a' w) l' a := by
    intro l'
    induction l' with
    | nil => rintro a ⟨σ', rfl, hh⟩; exact ⟨σ', rfl, hh⟩
    | cons o r ih =>
      intro a ha
      unfold wpJ at ha ⊢
      split
      · rename_i hw; rw [if_pos hw] at ha; obtain ⟨v, h1, h2⟩ := ha; exact ⟨v, h1, ih _ h2⟩
      · rename_i hw; rw [if_neg hw] at ha; exact ih _ ha
  exact mono _ _ h.out
theorem we_valE {R : Value → World → Prop} (hw : wantS o ops n σ = true) (h : ∃ v w', Runs P (opv (cut n σ)) o w (.ok (.value v) w') ∧ R v w') (k : ∀ v w', R v w' → J w' ∧ we P n ops Q J E rest (updO σ o.dst v) w') : we P n ops Q J E (o :: rest) σ w := by
  obtain ⟨v, w', hrun, hr⟩ := h
  refine ⟨?_⟩
  unfold sListJE
  rw [if_pos (by rw [yielded_eq]; exact hw)]
  left
  left
  unfold Oper.wp
  rw [Fr_eval, hrun.out, Oper.upon_value, Fr_put]
  exact ⟨(k v w' hr).1, (k v w' hr).2.out⟩
theorem we_callR {f : FuncId} {args : Array Value} {R : Value → World → Prop} (hw : wantS o ops n σ = true) (hrun : Runs P (opv (cut n σ)) o w (.ok (.enter f args) w)) (hc : CallsR P f args w R)
    (k : ∀ v w1, Below w.heap.size w w1 → R v w1 → J w1 ∧ we P n ops Q J E rest (updO σ o.dst v) w1) : we P n ops Q J E (o :: rest) σ w := by
  refine ⟨?_⟩
  unfold sListJE
  rw [if_pos (by rw [yielded_eq]; exact hw)]
  left
  left
  unfold Oper.wp
  rw [Fr_eval, hrun.out, Oper.upon_enter]
  refine hc.out.mono fun e w1 ⟨v, he, hb, hR⟩ => ?_
  subst he
  show J w1 ∧ sListJE P ops (lift n Q) J E rest ((Fr n σ).put o.dst v) w1
  rw [Fr_put]
  exact ⟨(k v w1 hb hR).1, (k v w1 hb hR).2.out⟩
end
theorem WP_drawE {P : Program} {n : Nat} {Q : Post} {σ : Nat → Value} {w : World} {id : Nat} {l : List Oper} (J : World → Prop) (hs : List Nat) (x y : Nat) (ts es : List Nat) (hm : P.follows .mixedOrders = true) (hz : Nat.beq (hs.length + (ts.length + es.length + 2)) l.length = true) (hB : permEB .any l.toArray hs x y ts es = true)
    (hJ : ∀ w', Below w.heap.size w w' → J w')
    (h : ∀ w', Below w.heap.size w w' → jq P n l.toArray J (fun σ' => we P n l.toArray (calm Q) J (Pm.pk l es) (Pm.pk l (x :: y :: ts)) σ' w' ∧ we P n l.toArray (calm Q) J (Pm.pk l es) (Pm.pk l (y :: x :: ts)) σ' w') (Pm.pk l hs) σ) : WP P n (.region id l.toArray true) Q σ w := by
  refine ⟨sw_mono NoPanic.imp (sw_any hm (sAny_of_J (J := J) (nj := fun d => !([] : List Nat).contains d) _ _ _ _ ?_))⟩
  simp only [permEB, Bool.and_eq_true] at hB
  have hq : lift n (calm Q) = NoPanic (lift n Q) := by
    funext e a w
    cases e <;> simp [lift, calm, NoPanic]
  have hb : Below w.heap.size w { w with drawn := w.drawn + 1 } := drew_grown w
  have key := headE (P := P) (Q := NoPanic (lift n Q)) (md := .any) (J := J) (l := l) (x := x) (y := y) (ts := ts) (es := es) hB.1 (fun c a w h => by simp [NoPanic] at h) hs (Array.replicate l.toArray.size false) (Fr n σ) { w with drawn := w.drawn + 1 } hB.2 (fun j oj _ hl => by rw [getD_replicate_false] at hl; cases hl) (hJ _ hb)
  have e : hs.length + (ts.length + es.length + 2) = l.toArray.size := by simpa using Nat.eq_of_beq_eq_true hz
  rw [e] at key
  refine key ?_
  have mono : ∀ (l' : List Oper) (a : Act), wpJ P l.toArray J (fun a => ∃ σ', a = Fr n σ' ∧ (we P n l.toArray (calm Q) J (Pm.pk l es) (Pm.pk l (x :: y :: ts)) σ' { w with drawn := w.drawn + 1 } ∧ we P n l.toArray (calm Q) J (Pm.pk l es) (Pm.pk l (y :: x :: ts)) σ' { w with drawn := w.drawn + 1 })) l' a →
      wpJ P l.toArray J (fun a' => sListJE P l.toArray (NoPanic (lift n Q)) J (Pm.pk l es) (Pm.pk l (x :: y :: ts)) a' { w with drawn := w.drawn + 1 } ∧ sListJE P l.toArray (NoPanic (lift n Q)) J (Pm.pk l es) (Pm.pk l (y :: x :: ts)) a' { w with drawn := w.drawn + 1 }) l' a := by
    intro l'
    induction l' with
    | nil => rintro a ⟨σ', rfl, hh⟩; rw [← hq]; exact ⟨hh.1.out, hh.2.out⟩
    | cons o r ih =>
      intro a ha
      unfold wpJ at ha ⊢
      split
      · rename_i hw; rw [if_pos hw] at ha; obtain ⟨v, h1, h2⟩ := ha; exact ⟨v, h1, ih _ h2⟩
      · rename_i hw; rw [if_neg hw] at ha; exact ih _ ha
  exact mono _ _ (h _ hb).out
end Go.Gx
/-
  append onto a row that is used again: what it holds comes back when the longer one is done with.
-/
namespace Go.Gx
open Go Go.RowKit
set_option linter.unusedVariables false
set_option linter.unusedSimpArgs false

theorem below_of_grown {w w' : World} (h : w.grownBy w' none) : Below w.heap.size w w' := ⟨h.os, h.tape, h.output, h.size, fun k hk => h.block k hk (by simp)⟩
/-- Another object of the same block in the first one's place. -/
theorem St.headEq {w0 w : World} {o o' : Ob} {ex : List Ob} (S : St w0 w (o :: ex)) (hb : o'.blk = o.blk) (ho : o'.ok w w0.heap.size) : St w0 w (o' :: ex) :=
  ⟨S.below, fun x hx => by
    rcases List.mem_cons.1 hx with rfl | hx
    · exact ho
    · exact S.ok x (List.mem_cons_of_mem _ hx), by
    have h := S.apart
    rw [List.pairwise_cons] at h ⊢
    refine ⟨fun b hbm => ?_, h.2⟩
    rw [hb]; exact h.1 b hbm⟩
section
variable {P : Program} {ρ : Operand → Value} {w w0 : World} {d : Option Tmp} {ty : TypeId} {pos : String} {af : Array Edge} {g : Option (Nat × Bool)} {T T' : TypeId} {s t : Operand} {ex : List Ob}
theorem r_appendKeep {α : Type} {D : Flat α} {e : TypeId} {bytes : Nat} {z v v2 : Value} {l l2 : List α} [hT : IsSlice P T e] [hI : TI P e z D.sz bytes] (S : St w0 w (rowOb D e v l :: ex)) (hR : Rd D.ty w v2 l2) (hne : l2 ≠ [])
    (h1 : ρ s = v) (h2 : ρ t = v2) (hz : z.cells.size = D.sz) (h0 : 0 < D.sz) (h1c : ∀ x, ∀ u ∈ D.enc x, u.oneCell' = true)
    (hb : (l.length + l2.length) * bytes ≤ 140737488355328) (h63 : l.length + l2.length ≤ maxLen) :
    ∃ v' w', Runs P ρ ⟨d, .call { callee := .builtin .append, args := #[s, t], argTypes := #[T, T] }, ty, pos, af, g⟩ w (.ok (.value v') w') ∧
      ∃ old, St w0 w' (rowOb D e v' (l ++ l2) :: (old ++ ex)) ∧ ∀ w2 ex2, St w0 w2 (rowOb D e v' (l ++ l2) :: (old ++ ex2)) → St w0 w2 (rowOb D e v l :: ex2) := by
  have how : w.ownsRow w0.heap.size e D.sz v l.length (fl D l) := S.ok _ (List.mem_cons_self ..)
  obtain ⟨ti, hti, htz, hts, htb⟩ := hI.out
  subst htb
  have hfl : fl D (l ++ l2) = fl D l ++ fl D l2 := by simp [fl]
  have hln : (fl D l2).length = l2.length * D.sz := fl_length D l2
  rcases hR.cells with ⟨c, rfl, rfl, rfl⟩ | ⟨a, c, rfl, hcs⟩
  · exact absurd rfl hne
  · have h1n : ∀ u ∈ fl D l2, u.oneCell' = true := fun u hu => by
      obtain ⟨x, _, hx⟩ := List.mem_flatMap.1 hu
      exact h1c x u hx
    have run_of : ∀ {v' w'}, (Builtin.append_ #[T, T] ty #[v, .slice (some a) l2.length c]).run P w = .ok v' w' → Runs P ρ ⟨d, .call { callee := .builtin .append, args := #[s, t], argTypes := #[T, T] }, ty, pos, af, g⟩ w (.ok (.value v') w') := fun {v' w'} h => ⟨by
      simp only [execOp, resolve, List.map_toArray, List.map_cons, List.map_nil, h1, h2]
      simp only [invoke, builtin]
      refine (run_bind (a := { target := _, args := _ }) rfl).trans ?_
      exact run_bind h⟩
    -- a new block
    have fresh : ∀ {v' w'}, (Builtin.append_ #[T, T] ty #[v, .slice (some a) l2.length c]).run P w = .ok v' w' → Below w.heap.size w w' → w'.ownsRow w.heap.size e D.sz v' (l.length + l2.length) (fl D l ++ fl D l2) →
        ∃ v' w', Runs P ρ ⟨d, .call { callee := .builtin .append, args := #[s, t], argTypes := #[T, T] }, ty, pos, af, g⟩ w (.ok (.value v') w') ∧
          ∃ old, St w0 w' (rowOb D e v' (l ++ l2) :: (old ++ ex)) ∧ ∀ w2 ex2, St w0 w2 (rowOb D e v' (l ++ l2) :: (old ++ ex2)) → St w0 w2 (rowOb D e v l :: ex2) := fun {v' w'} hr hb ho => by
      refine ⟨v', w', run_of hr, [rowOb D e v l], (S.new (o := rowOb D e v' (l ++ l2)) hb ?_).front, fun w2 ex2 S2 => S2.tail⟩
      show World.ownsRow _ _ _ _ _ _ _
      rw [hfl, List.length_append]; exact ho
    rcases how.2 with ⟨hv, hn⟩ | ⟨gb, cap, cur, hv, hbg, hg, hnc, hcm, hcs2, htk⟩
    · have hl : l = [] := List.length_eq_zero_iff.1 hn
      subst hl
      subst hv
      obtain ⟨v', w', hr, ho, hgr, _⟩ := run_append_own (P := P) w w.heap.size T ty e ti z D.sz ti.bytes hT.out hti htz hts rfl hz h0 (.slice none 0 0) 0 [] (World.ownsRow_nil _ _ _ _) a l2.length c (fl D l2) hln hcs h1n (by simpa using h63) (by simpa using hb) (Nat.le_refl _)
      exact fresh hr (below_of_grown hgr) (by simpa [fl] using ho)
    · subst hv
      by_cases hroom : l.length + l2.length ≤ cap
      · obtain ⟨w', hr, ho, hgr⟩ := run_append_fits (P := P) w w0.heap.size T ty e ti D.sz hT.out hti hts gb l.length cap (fl D l) how a l2.length c (fl D l2) hln hcs h1n hroom
        have S' : St w0 w' (rowOb D e (.slice (some ⟨gb, 0, none⟩) (l.length + l2.length) cap) (l ++ l2) :: ex) := by
          refine S.write (i := 0) rfl hgr ?_ (.inl rfl)
          show World.ownsRow _ _ _ _ _ _ _
          rw [hfl, List.length_append]; exact ho
        refine ⟨_, w', run_of hr, [], S', fun w2 ex2 S2 => S2.headEq rfl ?_⟩
        have ho2 : w2.ownsRow w0.heap.size e D.sz (.slice (some ⟨gb, 0, none⟩) (l.length + l2.length) cap) (l ++ l2).length (fl D (l ++ l2)) := S2.ok _ (List.mem_cons_self ..)
        rcases ho2.2 with ⟨h, _⟩ | ⟨g2, cap2, cur2, h, hb2, hg2, hn2, hm2, hs2, ht2⟩
        · simp at h
        · simp only [Value.slice.injEq, Option.some.injEq, Addr.mk.injEq, and_true, true_and] at h
          obtain ⟨rfl, _, rfl⟩ := h
          refine ⟨fl_length D l, .inr ⟨gb, cap, cur2, rfl, hb2, hg2, by omega, hm2, hs2, ?_⟩⟩
          have := congrArg (List.take (l.length * D.sz)) ht2
          rw [List.take_take, hfl, ← fl_length D l, List.take_left, List.length_append, fl_length D l, Nat.min_eq_left (Nat.mul_le_mul_right _ (by omega))] at this
          exact this
      · have holds : ∀ j u, (fl D l)[j]? = some u → w.cell? ((⟨gb, 0, none⟩ : Addr).add j) = some u := how.cells (g := gb) rfl
        have hr := run_append_grow (P := P) w T ty e ti z hT.out hti htz ⟨gb, 0, none⟩ l.length cap (fl D l) (by rw [hts]; exact fl_length D l) holds a l2.length c (fl D l2) (by rw [hts]; exact hln) hcs (by omega) (by simp only [maxLen] at h63; omega) (growslice_fits (by omega) hb)
        have hbl : ∀ o, Below w.heap.size w (w.drew.alloc o) := fun o => ⟨rfl, rfl, rfl, by simp, fun k hk => heap_alloc_old w.drew o hk⟩
        refine fresh hr (hbl _) ⟨by rw [List.length_append, fl_length, fl_length, Nat.add_mul], .inr ⟨w.heap.size, _, _, rfl, Nat.le_refl _, heap_alloc_new w.drew _, grownCap_ge _ _ _ _, grownCap_le_maxLen _ _ _ _ h63, ?_, ?_⟩⟩
        · have hge := grownCap_ge w (l.length + l2.length) cap e
          simp only [Array.size_append, List.size_toArray, size_zeroCells, hz, fl_length, ← Nat.add_mul]
          congr 1
          omega
        · have e1 : (l.length + l2.length) * D.sz = (fl D l ++ fl D l2).length := by rw [List.length_append, fl_length, fl_length, Nat.add_mul]
          simp only [Array.toList_append]
          rw [e1]
          exact List.take_left
end
end Go.Gx
/-
  A row's arguments opened: what the reading of an argument says of its value and its cells.
-/
namespace Go.Gx
open Go Go.RowKit Go.WideShapes Go.ChangeShapes Go.Deep
set_option linter.unusedVariables false
set_option linter.unusedSimpArgs false

def inI (x : Int) : Prop := -9223372036854775808 ≤ x ∧ x ≤ 9223372036854775807
def inK (k : IntKind) (x : Int) : Prop := k.min ≤ x ∧ x ≤ k.max
theorem inK_i64 {x : Int} (h : inK .i64 x) : inI x := by
  unfold inK at h; unfold inI; simp [IntKind.min, IntKind.max, IntKind.signed, IntKind.bits] at h; omega
theorem inK_u8 {x : Int} (h : inK .u8 x) : 0 ≤ x ∧ x ≤ 255 := by
  unfold inK at h; simp [IntKind.min, IntKind.max, IntKind.signed, IntKind.bits] at h; omega
theorem inK_u64 {x : Int} (h : inK .u64 x) : 0 ≤ x ∧ x ≤ 18446744073709551615 := by
  unfold inK at h; simp [IntKind.min, IntKind.max, IntKind.signed, IntKind.bits] at h; omega
theorem wf_inK {k : IntKind} {n : Int} (h : (Lit.int k n).wf = true) : inK k n := by
  simpa [Lit.wf, inK] using h

/-- Some reading of these cells, as of type t. -/
def TR {H : Type} (enc : TypeId × Value → H) (P : Program) (w : World) (t : TypeId) (cs : List Value) : Prop := ∃ fuel x, DataW.trod enc P w 0 (fun _ => true) true fuel t cs = some x

section
variable {H : Type} {enc : TypeId × Value → H} {P : Program} {w : World} {t : TypeId} {cs : List Value}

theorem TR.int {k : IntKind} (ht : P.underlying t = some (.int k)) (h : TR enc P w t cs) : ∃ n, cs = [.int k n] ∧ inK k n := by
  obtain ⟨fuel, x, h⟩ := h
  obtain ⟨n, hc, _, hw⟩ := DataW.trod_int ht h
  exact ⟨n, hc, wf_inK hw⟩
theorem TR.int64 (ht : P.underlying t = some (.int .i64)) (h : TR enc P w t cs) : ∃ n, cs = [.int .i64 n] ∧ inI n :=
  let ⟨n, hc, hw⟩ := h.int ht; ⟨n, hc, inK_i64 hw⟩
theorem TR.bool (ht : P.underlying t = some .bool) (h : TR enc P w t cs) : ∃ n, cs = [.bool n] ∧ True := by
  obtain ⟨fuel, x, h⟩ := h
  obtain ⟨n, hc, _⟩ := DataW.trod_bool ht h
  exact ⟨n, hc, trivial⟩
theorem TR.str (ht : P.underlying t = some .string) (h : TR enc P w t cs) : ∃ n, cs = [.string n] ∧ n.size ≤ maxLen := by
  obtain ⟨fuel, x, h⟩ := h
  obtain ⟨n, hc, _, hs⟩ := DataW.trod_string ht h
  exact ⟨n, hc, hs⟩
theorem TR.struct {fs : Array Field} (ht : P.underlying t = some (.struct fs)) (h : TR enc P w t cs) :
    cs.length = P.cellsOf t ∧ ∀ (i : Nat) (f : Field), fs[i]? = some f → TR enc P w f.type ((cs.drop f.offset).take (P.cellsOf f.type)) := by
  obtain ⟨fuel, x, h⟩ := h
  obtain ⟨xs, n, _, _, hl, hn, hf⟩ := DataW.trod_struct ht h
  refine ⟨hl, fun i f hi => ?_⟩
  have hlt : i < xs.length := by rw [hn]; exact (Array.getElem?_eq_some_iff.1 hi).1
  exact ⟨n, xs[i], by rw [hf i f hi, List.getElem?_eq_getElem hlt]⟩
theorem TR.arr {n : Nat} {e : TypeId} (ht : P.underlying t = some (.array n e)) (h : TR enc P w t cs) :
    cs.length = P.cellsOf t ∧ ∀ i, i < n → TR enc P w e ((cs.drop (i * P.cellsOf e)).take (P.cellsOf e)) := by
  obtain ⟨fuel, x, h⟩ := h
  obtain ⟨xs, m, _, _, hl, hn, hf⟩ := DataW.trod_array ht h
  refine ⟨hl, fun i hi => ?_⟩
  exact ⟨m, xs[i], by rw [hf i hi, List.getElem?_eq_getElem (by omega)]⟩

theorem join_cons {cs a b : List Value} {o n n' : Nat} (hn : n' = n) (h1 : (cs.drop o).take n' = a) (h2 : cs.drop (o + n) = b) : cs.drop o = a ++ b := by
  subst hn; rw [← h1, ← h2, ← List.drop_drop, List.take_append_drop]
theorem join_nil {cs : List Value} {n n' : Nat} (hl : cs.length = n') (hn : n' = n) : cs.drop n = [] := List.drop_eq_nil_of_le (by omega)

/-- A slice, opened element by element. -/
theorem TR.slice {α : Type} {D : Ty α} {ok : α → Prop} {e : TypeId} (ht : P.underlying t = some (.slice e)) (hc : P.cellsOf e = D.sz) (h0 : 0 < D.sz) (ho : ∀ cs, TR enc P w e cs → ∃ a, D.R w a cs ∧ ok a) (h : TR enc P w t cs) :
    ∃ v l, cs = [v] ∧ Rd D w v l ∧ (∀ x ∈ l, ok x) ∧ l.length ≤ maxLen := by
  obtain ⟨fuel, x, h⟩ := h
  rcases open_slice ht h with ⟨rfl, _⟩ | ⟨a, len, cap, m, n, Dd, Pl, rfl, _, hl, hm, hmm, hxe, hx⟩
  · exact ⟨_, [], rfl, Rd.nil D w, by simp, by simp [maxLen]⟩
  · have hcap : m = cap := by rw [hmm]; simp
    have hel : ∀ i, i < len → ∃ (y : α × List Value), w.cells? 0 (a.add (i * D.sz)) D.sz = some y.2 ∧ D.R w y.1 y.2 ∧ ok y.1 := fun i hi => by
      obtain ⟨cs', h1, h2⟩ := hx i (by omega)
      obtain ⟨z, hz1, hz2⟩ := ho cs' ⟨_, _, h2⟩
      exact ⟨(z, cs'), by rw [← hc]; exact h1, hz1, hz2⟩
    have key : ∃ l : List (α × List Value), l.length = len ∧ ∀ i y, l[i]? = some y → w.cells? 0 (a.add (i * D.sz)) D.sz = some y.2 ∧ D.R w y.1 y.2 ∧ ok y.1 := by
      clear hx hmm hm hl h hxe hcap
      induction len with
      | zero => exact ⟨[], rfl, by simp⟩
      | succ k ih =>
        obtain ⟨l, hlen, hall⟩ := ih (fun i hi => hel i (by omega))
        obtain ⟨y, hy⟩ := hel k (by omega)
        refine ⟨l ++ [y], by simp [hlen], fun i z hz => ?_⟩
        by_cases hi : i < k
        · rw [List.getElem?_append_left (by omega)] at hz; exact hall i z hz
        · rw [List.getElem?_append_right (by omega)] at hz
          have : i - l.length = 0 := by
            rcases Nat.eq_zero_or_pos (i - l.length) with h | h
            · exact h
            · rw [List.getElem?_eq_none (by simp; omega)] at hz; cases hz
          rw [this] at hz
          simp at hz
          subst hz
          rw [show i = k by omega]; exact hy
    obtain ⟨l, hlen, hall⟩ := key
    refine ⟨_, l.map (·.1), rfl, ⟨some a, cap, by simp [hlen], by simp [hlen]; omega, ?_⟩, fun x hx => ?_, by simp [hlen]; omega⟩
    · cases l with
      | nil => exact .inl ⟨rfl, fun h => by cases h⟩
      | cons y0 l' =>
        refine .inr ⟨a, rfl, ?_⟩
        have h00 := (hall 0 y0 rfl).1
        obtain ⟨_, hl0, hc0⟩ := World.cells?_some h00
        have c0 := hc0 0 h0
        rw [add_add] at c0
        simp only [Nat.zero_mul, Nat.add_zero, add_zero] at c0
        have hsome : ∃ u, w.cell? a = some u := by
          rw [c0]; exact ⟨_, List.getElem?_eq_getElem (by omega)⟩
        obtain ⟨u, hu⟩ := hsome
        have hspot : a.spot = none := by
          unfold World.cell? at hu
          split at hu
          · split at hu
            · cases hu
            · rename_i hns; cases hsp : a.spot with
              | none => rfl
              | some _ => simp [hsp] at hns
          · cases hu
        have hblk : a.block < w.heap.size := by
          unfold World.cell? at hu
          cases hh : w.heap[a.block]? with
          | none => rw [hh] at hu; cases hu
          | some o => exact (Array.getElem?_eq_some_iff.1 hh).1
        refine ⟨hspot, hblk, fun j x hj => ?_⟩
        rw [List.getElem?_map] at hj
        cases hy : (y0 :: l')[j]? with
        | none => rw [hy] at hj; cases hj
        | some y =>
          rw [hy] at hj
          simp at hj
          obtain ⟨h1, h2, _⟩ := hall j y hy
          obtain ⟨_, hl1, hcs⟩ := World.cells?_some h1
          refine ⟨y.2, by rw [← hj]; exact h2, fun i u hu => ?_⟩
          have hi : i < D.sz := by rw [← hl1]; exact (List.getElem?_eq_some_iff.1 hu).1
          rw [← add_add, hcs i hi, hu]
    · obtain ⟨y, hy, rfl⟩ := List.mem_map.1 hx
      obtain ⟨i, hi⟩ := List.getElem?_of_mem hy
      exact (hall i y hi).2.2

/-! ### Arguments -/
variable {v : Value} {d : DataW H} {p : List MemPlace}
theorem TR.of (h : DataW.Trod enc P w 0 (fun _ => true) true t v d p) : TR enc P w t v.cells.toList := let ⟨f, h⟩ := h; ⟨f, _, h⟩
theorem p_int {k : IntKind} (ht : P.underlying t = some (.int k)) (hv : Value.okWide P w .any 0 t v) (h : DataW.Trod enc P w 0 (fun _ => true) true t v d p) : ∃ n, v = .int k n ∧ inK k n :=
  let ⟨n, hn, _, _, hw⟩ := open_int ht hv h; ⟨n, hn, wf_inK hw⟩
theorem p_int64 (ht : P.underlying t = some (.int .i64)) (hv : Value.okWide P w .any 0 t v) (h : DataW.Trod enc P w 0 (fun _ => true) true t v d p) : ∃ n, v = .int .i64 n ∧ inI n :=
  let ⟨n, hn, hw⟩ := p_int ht hv h; ⟨n, hn, inK_i64 hw⟩
theorem p_bool (ht : P.underlying t = some .bool) (hv : Value.okWide P w .any 0 t v) : ∃ n, v = .bool n := okWide_bool ht hv
theorem p_str (ht : P.underlying t = some .string) (hv : Value.okWide P w .any 0 t v) (h : DataW.Trod enc P w 0 (fun _ => true) true t v d p) : ∃ n, v = .string n ∧ n.size ≤ maxLen := by
  obtain ⟨n, rfl⟩ := okWide_string ht hv
  obtain ⟨m, hm, hs⟩ := (TR.of h).str ht
  simp [Value.cells] at hm
  subst hm
  exact ⟨_, rfl, hs⟩
theorem p_struct {fs : Array Field} (ht : P.underlying t = some (.struct fs)) (hv : Value.okWide P w .any 0 t v) (h : DataW.Trod enc P w 0 (fun _ => true) true t v d p) : ∃ cs : List Value, v = .agg cs.toArray ∧ TR enc P w t cs := by
  obtain ⟨cs, rfl, _⟩ := okWide_struct ht hv
  exact ⟨cs.toList, by simp, TR.of h⟩
theorem p_arr {n : Nat} {e : TypeId} (ht : P.underlying t = some (.array n e)) (hv : Value.okWide P w .any 0 t v) (h : DataW.Trod enc P w 0 (fun _ => true) true t v d p) : ∃ cs : List Value, v = .agg cs.toArray ∧ TR enc P w t cs := by
  simp only [Value.okWide, ht] at hv
  obtain ⟨cs, rfl, _⟩ := hv
  exact ⟨cs.toList, by simp, TR.of h⟩
theorem p_slice {α : Type} {D : Ty α} {ok : α → Prop} {e : TypeId} (ht : P.underlying t = some (.slice e)) (hv : Value.okWide P w .any 0 t v) (h : DataW.Trod enc P w 0 (fun _ => true) true t v d p)
    (hc : P.cellsOf e = D.sz) (h0 : 0 < D.sz) (ho : ∀ cs, TR enc P w e cs → ∃ a, D.R w a cs ∧ ok a) : ∃ l, Rd D w v l ∧ (∀ x ∈ l, ok x) ∧ l.length ≤ maxLen := by
  obtain ⟨a, len, cap, rfl⟩ := okWide_slice ht hv
  obtain ⟨u, l, hu, h1, h2, h3⟩ := (TR.of h).slice ht hc h0 ho
  simp [Value.cells] at hu
  subst hu
  exact ⟨l, h1, h2, h3⟩
theorem p_lt (h : DataW.Trod enc P w 0 (fun _ => true) true t v d p) : ∀ x ∈ p, x.block < w.heap.size := by
  obtain ⟨m, hm⟩ := h; exact DataW.trod_lt m _ _ _ hm
end
theorem TR.same {H : Type} {enc : TypeId × Value → H} {P : Program} {w : World} {t t' : TypeId} {cs : List Value} (hu : P.underlying t = P.underlying t') (hc : P.cellsOf t = P.cellsOf t') (h : TR enc P w t cs) : TR enc P w t' cs := by
  obtain ⟨fuel, x, h⟩ := h
  cases fuel with
  | zero => simp [DataW.trod] at h
  | succ f =>
    refine ⟨f + 1, ?_⟩
    unfold DataW.trod at h ⊢
    rw [hu, hc] at h
    generalize P.underlying t' = u at h ⊢
    split at h
    all_goals first
      | exact ⟨_, h⟩
      | skip
    all_goals simp
end Go.Gx
/-
  A region that draws its order: loads and values; then one operation that grows the world (a call); then values of a class of worlds, beside writes that stay in the class.
-/
namespace Go.Gx
open Go Go.RowKit Go.Gx
set_option linter.unusedVariables false
set_option linter.unusedSimpArgs false

section
variable {P : Program} {ops : Array Oper} {Q : Exit → Act → World → Prop} {md : Region.Mode} {J : World → Prop} {nj : Nat → Bool}
def headKB (md : Region.Mode) (ops : Array Oper) (k : Nat) (hs2 ts us : List Nat) : List Nat → Array Bool → Bool
  | [], listed => decide (Region.ready md ops listed = [k]) && headJB md ops ts us hs2 (listed.setIfInBounds k true)
  | i :: is, listed => (Region.ready md ops listed).contains i && Region.free md ops listed i && (us.all fun d => reachG md ops i ops.size d) && headKB md ops k hs2 ts us is (listed.setIfInBounds i true)
def permKB (md : Region.Mode) (ops : Array Oper) (hs : List Nat) (k : Nat) (hs2 ts us : List Nat) : Bool := Region.noSelect ops && headKB md ops k hs2 ts us hs (Array.replicate ops.size false)
def oneK (P : Program) (ops : Array Oper) (Q : Exit → Act → World → Prop) (J : World → Prop) (o : Oper) (K : Act → World → Prop) (a : Act) (w : World) : Prop :=
  if Region.wanted o (yielded ops a.tmps) = true then Oper.sp P o a w (fun a' w' => J w' ∧ K a' w') Q else J w ∧ K (a.put o.dst undef) w
theorem headK {l : List Oper} {hs2 ts us : List Nat} {k : Nat} {ok : Oper} (hk : l.toArray[k]? = some ok) (hsel : Region.noSelect l.toArray = true) (hQ : ∀ c a w, ¬ Q (.panic c) a w) :
    ∀ (is : List Nat) (listed : Array Bool) (a : Act) (w : World), headKB md l.toArray k hs2 ts us is listed = true → ClosedG md l.toArray listed → J w →
    wpJ P l.toArray J (fun a' => oneK P l.toArray Q J ok (fun a2 w2 => wpJ P l.toArray J (fun a3 => sListJ P l.toArray Q J (Pm.pk l us) (Pm.pk l ts) a3 w2) (Pm.pk l hs2) a2) a' w) (Pm.pk l is) a →
    sAnyJ P md l.toArray Q J (fun d => !us.contains d) (is.length + (1 + (hs2.length + (ts.length + us.length)))) listed a w
  | [], listed, a, w, hB, hc, hJ, h => by
    simp only [headKB, Bool.and_eq_true, decide_eq_true_eq] at hB
    have e : ([] : List Nat).length + (1 + (hs2.length + (ts.length + us.length))) = hs2.length + (ts.length + us.length) + 1 := by simp; omega
    rw [e]
    have hr : k ∈ Region.ready md l.toArray listed := by rw [hB.1]; exact List.mem_singleton.2 rfl
    refine ⟨fun h1 => (by rw [hB.1] at h1; cases h1), fun i hi => ?_⟩
    rw [hB.1] at hi
    have hik : i = k := List.mem_singleton.1 hi
    subst hik
    have h' : oneK P l.toArray Q J ok (fun a2 w2 => wpJ P l.toArray J (fun a3 => sListJ P l.toArray Q J (Pm.pk l us) (Pm.pk l ts) a3 w2) (Pm.pk l hs2) a2) a w := h
    have hw : sOp P l.toArray Q i (fun a' w' => J w' ∧ wpJ P l.toArray J (fun a3 => sListJ P l.toArray Q J (Pm.pk l us) (Pm.pk l ts) a3 w') (Pm.pk l hs2) a') a w := by
      unfold sOp; simp only [hk]; exact h'
    exact sOp_mono (fun a' w' h2 => ⟨fun _ => h2.1, headJ hsel hQ hs2 _ a' w' hB.2 (hc.set hr) h2.1 h2.2⟩) hw
  | i :: is, listed, a, w, hB, hc, hJ, h => by
    simp only [headKB, Bool.and_eq_true] at hB
    obtain ⟨⟨⟨hr, hf⟩, hd⟩, hB'⟩ := hB
    have hr' : i ∈ Region.ready md l.toArray listed := by simpa using hr
    obtain ⟨_, o, h0, _⟩ := mem_ready.1 hr'
    rw [Pm.pk, Pm.pk_get h0] at h
    have hy : ∃ v, YieldsJ P l.toArray J o v a ∧ wpJ P l.toArray J (fun a' => oneK P l.toArray Q J ok (fun a2 w2 => wpJ P l.toArray J (fun a3 => sListJ P l.toArray Q J (Pm.pk l us) (Pm.pk l ts) a3 w2) (Pm.pk l hs2) a2) a' w) (Pm.pk l is) (a.put o.dst v) := by
      unfold wpJ at h
      by_cases hw : Region.wanted o (yielded l.toArray a.tmps) = true
      · rw [if_pos hw] at h
        obtain ⟨v, h1, h2⟩ := h
        exact ⟨v, .inl ⟨hw, h1⟩, h2⟩
      · rw [if_neg hw] at h
        exact ⟨undef, .inr ⟨by simpa using hw, rfl⟩, h⟩
    obtain ⟨v, hy, hK⟩ := hy
    have hrec := headK hk hsel hQ is _ (a.put o.dst v) w hB' (hc.set hr') hJ hK
    have e : (i :: is).length + (1 + (hs2.length + (ts.length + us.length))) = is.length + (1 + (hs2.length + (ts.length + us.length))) + 1 := by simp; omega
    rw [e]
    exact firstJ h0 (Region.noSelect_spec hsel) (fun c a w h => absurd h (hQ _ _ _)) (fun d hdu hds => List.all_eq_true.1 hd d (by simpa using hdu)) _ listed a w (Region.free_spec h0 hf) hc hr' hy hJ hrec
end
/-- The one operation that grows the world. -/
structure kq (P : Program) (n : Nat) (ops : Array Oper) (Q : Post) (J : World → Prop) (o : Oper) (K : (Nat → Value) → World → Prop) (σ : Nat → Value) (w : World) : Prop where mk :: (out : oneK P ops (lift n Q) J o (fun a w => ∃ σ', a = Fr n σ' ∧ K σ' w) (Fr n σ) w)
theorem kq_callV {P : Program} {n : Nat} {ops : Array Oper} {Q : Post} {J : World → Prop} {o : Oper} {K : (Nat → Value) → World → Prop} {σ : Nat → Value} {w : World} {v : Value} {f : FuncId} {args : Array Value} (hw : wantS o ops n σ = true) (hrun : Runs P (opv (cut n σ)) o w (.ok (.enter f args) w)) (hc : CallsV P f args w v)
    (k : ∀ w1, Below w.heap.size w w1 → J w1 ∧ K (updO σ o.dst v) w1) : kq P n ops Q J o K σ w := by
  refine ⟨?_⟩
  unfold oneK
  rw [if_pos (by rw [yielded_eq]; exact hw)]
  left
  left
  unfold Oper.wp
  rw [Fr_eval, hrun.out, Oper.upon_enter]
  refine Calls.mono hc.out fun e w1 ⟨he, hb⟩ => ?_
  subst he
  exact ⟨(k w1 hb).1, updO σ o.dst v, by rw [Fr_put], (k w1 hb).2⟩
theorem WP_drawK {P : Program} {n : Nat} {Q : Post} {σ : Nat → Value} {w : World} {id : Nat} {l : List Oper} (J : World → Prop) (hs : List Nat) (k : Nat) (hs2 ts us : List Nat) (ok : Oper) (hk : l.toArray[k]? = some ok) (hm : P.follows .mixedOrders = true) (hz : Nat.beq (hs.length + (1 + (hs2.length + (ts.length + us.length)))) l.length = true) (hB : permKB .any l.toArray hs k hs2 ts us = true)
    (hJ : ∀ w', Below w.heap.size w w' → J w')
    (h : ∀ w', Below w.heap.size w w' → jq P n l.toArray J (fun σ' => kq P n l.toArray (calm Q) J ok (fun σ2 w2 => jq P n l.toArray J (fun σ3 => wj P n l.toArray (calm Q) J (Pm.pk l us) (Pm.pk l ts) σ3 w2) (Pm.pk l hs2) σ2) σ' w') (Pm.pk l hs) σ) : WP P n (.region id l.toArray true) Q σ w := by
  refine ⟨sw_mono NoPanic.imp (sw_any hm (sAny_of_J (J := J) (nj := fun d => !us.contains d) _ _ _ _ ?_))⟩
  simp only [permKB, Bool.and_eq_true] at hB
  have hq : lift n (calm Q) = NoPanic (lift n Q) := by
    funext e a w
    cases e <;> simp [lift, calm, NoPanic]
  have hb : Below w.heap.size w { w with drawn := w.drawn + 1 } := drew_grown w
  have key := headK (P := P) (Q := NoPanic (lift n Q)) (md := .any) (J := J) (l := l) (hs2 := hs2) (ts := ts) (us := us) hk hB.1 (fun c a w h => by simp [NoPanic] at h) hs (Array.replicate l.toArray.size false) (Fr n σ) { w with drawn := w.drawn + 1 } hB.2 (fun j oj _ hl => by rw [getD_replicate_false] at hl; cases hl) (hJ _ hb)
  have e : hs.length + (1 + (hs2.length + (ts.length + us.length))) = l.toArray.size := by simpa using Nat.eq_of_beq_eq_true hz
  rw [e] at key
  refine key ?_
  have mono2 : ∀ (w2 : World) (l' : List Oper) (a : Act), wpJ P l.toArray J (fun a => ∃ σ', a = Fr n σ' ∧ wj P n l.toArray (calm Q) J (Pm.pk l us) (Pm.pk l ts) σ' w2) l' a →
      wpJ P l.toArray J (fun a' => sListJ P l.toArray (NoPanic (lift n Q)) J (Pm.pk l us) (Pm.pk l ts) a' w2) l' a := by
    intro w2 l'
    induction l' with
    | nil => rintro a ⟨σ', rfl, hh⟩; rw [← hq]; exact hh.out
    | cons o r ih =>
      intro a ha
      unfold wpJ at ha ⊢
      split
      · rename_i hw; rw [if_pos hw] at ha; obtain ⟨v, h1, h2⟩ := ha; exact ⟨v, h1, ih _ h2⟩
      · rename_i hw; rw [if_neg hw] at ha; exact ih _ ha
  have one : ∀ (σ' : Nat → Value) (w' : World), kq P n l.toArray (calm Q) J ok (fun σ2 w2 => jq P n l.toArray J (fun σ3 => wj P n l.toArray (calm Q) J (Pm.pk l us) (Pm.pk l ts) σ3 w2) (Pm.pk l hs2) σ2) σ' w' →
      oneK P l.toArray (NoPanic (lift n Q)) J ok (fun a2 w2 => wpJ P l.toArray J (fun a3 => sListJ P l.toArray (NoPanic (lift n Q)) J (Pm.pk l us) (Pm.pk l ts) a3 w2) (Pm.pk l hs2) a2) (Fr n σ') w' := by
    intro σ' w' hh
    have h1 := hh.out
    rw [hq] at h1
    have h2 : sOp P l.toArray (NoPanic (lift n Q)) k (fun a w => J w ∧ ∃ σ2, a = Fr n σ2 ∧ jq P n l.toArray J (fun σ3 => wj P n l.toArray (calm Q) J (Pm.pk l us) (Pm.pk l ts) σ3 w) (Pm.pk l hs2) σ2) (Fr n σ') w' := by
      unfold sOp; simp only [hk]; exact h1
    have h3 := sOp_mono (fun a' w'' ⟨hj, σ2, ha, h2⟩ => (show J w'' ∧ wpJ P l.toArray J (fun a3 => sListJ P l.toArray (NoPanic (lift n Q)) J (Pm.pk l us) (Pm.pk l ts) a3 w'') (Pm.pk l hs2) a' from ⟨hj, by subst ha; exact mono2 _ _ _ h2.out⟩)) h2
    unfold sOp at h3
    simp only [hk] at h3
    exact h3
  have mono : ∀ (l' : List Oper) (a : Act) (w' : World), wpJ P l.toArray J (fun a => ∃ σ', a = Fr n σ' ∧ kq P n l.toArray (calm Q) J ok (fun σ2 w2 => jq P n l.toArray J (fun σ3 => wj P n l.toArray (calm Q) J (Pm.pk l us) (Pm.pk l ts) σ3 w2) (Pm.pk l hs2) σ2) σ' w') l' a →
      wpJ P l.toArray J (fun a' => oneK P l.toArray (NoPanic (lift n Q)) J ok (fun a2 w2 => wpJ P l.toArray J (fun a3 => sListJ P l.toArray (NoPanic (lift n Q)) J (Pm.pk l us) (Pm.pk l ts) a3 w2) (Pm.pk l hs2) a2) a' w') l' a := by
    intro l'
    induction l' with
    | nil => rintro a w' ⟨σ', rfl, hh⟩; exact one _ _ hh
    | cons o r ih =>
      intro a w' ha
      unfold wpJ at ha ⊢
      split
      · rename_i hw; rw [if_pos hw] at ha; obtain ⟨v, h1, h2⟩ := ha; exact ⟨v, h1, ih _ _ h2⟩
      · rename_i hw; rw [if_neg hw] at ha; exact ih _ _ ha
  exact mono _ _ _ (h _ hb).out
end Go.Gx
/-
  A region that draws its order: loads and values; then writes (and what grows the world) in the orders of a tree; then plain operations in any order.
-/
namespace Go.Gx
open Go Go.RowKit Go.Gx
set_option linter.unusedVariables false
set_option linter.unusedSimpArgs false

/-- The orders that are left. -/
inductive OT
  | fin
  | one (k : Nat) (t : OT)
  | two (x : Nat) (tx : OT) (y : Nat) (ty : OT)
def OT.cnt : OT → Nat
  | .fin => 0
  | .one _ t => t.cnt + 1
  | .two _ tx _ _ => tx.cnt + 1
section
variable {P : Program} {ops : Array Oper} {Q : Exit → Act → World → Prop} {md : Region.Mode} {J : World → Prop}
def treeB (md : Region.Mode) (ops : Array Oper) (es : List Nat) : OT → Array Bool → Bool
  | .fin, listed => headJB md ops [] [] es listed
  | .one k t, listed => decide (Region.ready md ops listed = [k]) && treeB md ops es t (listed.setIfInBounds k true)
  | .two x tx y ty, listed => decide (Region.ready md ops listed = [x, y]) && Nat.beq tx.cnt ty.cnt && treeB md ops es tx (listed.setIfInBounds x true) && treeB md ops es ty (listed.setIfInBounds y true)
def headTB (md : Region.Mode) (ops : Array Oper) (t : OT) (es : List Nat) : List Nat → Array Bool → Bool
  | [], listed => treeB md ops es t listed
  | k :: ks, listed => (Region.ready md ops listed).contains k && Region.free md ops listed k && headTB md ops t es ks (listed.setIfInBounds k true)
def permTB (md : Region.Mode) (ops : Array Oper) (hs : List Nat) (t : OT) (es : List Nat) : Bool := Region.noSelect ops && headTB md ops t es hs (Array.replicate ops.size false)
def sTree (P : Program) (Q : Exit → Act → World → Prop) (J : World → Prop) (l : List Oper) (es : List Nat) : OT → Act → World → Prop
  | .fin, a, w => wpJ P l.toArray J (fun a' => Q .normal a' w) (Pm.pk l es) a
  | .one k t, a, w => oneK P l.toArray Q J (l.getD k Pm.dflt) (sTree P Q J l es t) a w
  | .two x tx y ty, a, w => oneK P l.toArray Q J (l.getD x Pm.dflt) (sTree P Q J l es tx) a w ∧ oneK P l.toArray Q J (l.getD y Pm.dflt) (sTree P Q J l es ty) a w
theorem tree_any {l : List Oper} {es : List Nat} (hsel : Region.noSelect l.toArray = true) (hQ : ∀ c a w, ¬ Q (.panic c) a w) : ∀ (t : OT) (listed : Array Bool) (a : Act) (w : World),
    treeB md l.toArray es t listed = true → ClosedG md l.toArray listed → J w → sTree P Q J l es t a w → sAnyJ P md l.toArray Q J (fun d => !([] : List Nat).contains d) (t.cnt + es.length) listed a w
  | .fin, listed, a, w, hB, hc, hJ, h => by
    have := headJ (P := P) (Q := Q) (md := md) (J := J) (l := l) (ts := []) (us := []) hsel hQ es listed a w hB hc hJ h
    simpa [OT.cnt] using this
  | .one k t, listed, a, w, hB, hc, hJ, h => by
    simp only [treeB, Bool.and_eq_true, decide_eq_true_eq] at hB
    have e : (OT.one k t).cnt + es.length = t.cnt + es.length + 1 := by simp only [OT.cnt]; omega
    rw [e]
    refine ⟨fun h1 => (by rw [hB.1] at h1; cases h1), fun i hi => ?_⟩
    have hi0 := hi
    obtain ⟨hun, o, h0, _⟩ := mem_ready.1 hi
    rw [hB.1] at hi
    have hik : i = k := by simpa using hi
    subst hik
    have h' : oneK P l.toArray Q J (l.getD i Pm.dflt) (sTree P Q J l es t) a w := h
    rw [Pm.pk_get h0] at h'
    have hw : sOp P l.toArray Q i (fun a' w' => J w' ∧ sTree P Q J l es t a' w') a w := by unfold sOp; simp only [h0]; exact h'
    exact sOp_mono (fun a' w' h' => ⟨fun _ => h'.1, tree_any hsel hQ t _ a' w' hB.2 (hc.set hi0) h'.1 h'.2⟩) hw
  | .two x tx y ty, listed, a, w, hB, hc, hJ, h => by
    simp only [treeB, Bool.and_eq_true, decide_eq_true_eq] at hB
    obtain ⟨⟨⟨hr, hcnt⟩, h1⟩, h2⟩ := hB
    have hce := Nat.eq_of_beq_eq_true hcnt
    have e : (OT.two x tx y ty).cnt + es.length = tx.cnt + es.length + 1 := by simp only [OT.cnt]; omega
    rw [e]
    refine ⟨fun h1 => (by rw [hr] at h1; cases h1), fun i hi => ?_⟩
    have hi0 := hi
    obtain ⟨hun, o, h0, _⟩ := mem_ready.1 hi
    rw [hr] at hi
    have hik : i = x ∨ i = y := by simpa using hi
    rcases hik with hik | hik
    · subst hik
      have h' : oneK P l.toArray Q J (l.getD i Pm.dflt) (sTree P Q J l es tx) a w := h.1
      rw [Pm.pk_get h0] at h'
      have hw : sOp P l.toArray Q i (fun a' w' => J w' ∧ sTree P Q J l es tx a' w') a w := by unfold sOp; simp only [h0]; exact h'
      exact sOp_mono (fun a' w' h' => ⟨fun _ => h'.1, tree_any hsel hQ tx _ a' w' h1 (hc.set hi0) h'.1 h'.2⟩) hw
    · subst hik
      have h' : oneK P l.toArray Q J (l.getD i Pm.dflt) (sTree P Q J l es ty) a w := h.2
      rw [Pm.pk_get h0] at h'
      have hw : sOp P l.toArray Q i (fun a' w' => J w' ∧ sTree P Q J l es ty a' w') a w := by unfold sOp; simp only [h0]; exact h'
      rw [hce]
      exact sOp_mono (fun a' w' h' => ⟨fun _ => h'.1, tree_any hsel hQ ty _ a' w' h2 (hc.set hi0) h'.1 h'.2⟩) hw
theorem headT {l : List Oper} {t : OT} {es : List Nat} (hsel : Region.noSelect l.toArray = true) (hQ : ∀ c a w, ¬ Q (.panic c) a w) :
    ∀ (ks : List Nat) (listed : Array Bool) (a : Act) (w : World), headTB md l.toArray t es ks listed = true → ClosedG md l.toArray listed → J w →
    wpJ P l.toArray J (fun a' => sTree P Q J l es t a' w) (Pm.pk l ks) a → sAnyJ P md l.toArray Q J (fun d => !([] : List Nat).contains d) (ks.length + (t.cnt + es.length)) listed a w
  | [], listed, a, w, hB, hc, hJ, h => by
    simp only [List.length_nil, Nat.zero_add]
    exact tree_any hsel hQ t listed a w hB hc hJ h
  | k :: ks, listed, a, w, hB, hc, hJ, h => by
    simp only [headTB, Bool.and_eq_true] at hB
    obtain ⟨⟨hr, hf⟩, hB'⟩ := hB
    have hr' : k ∈ Region.ready md l.toArray listed := by simpa using hr
    obtain ⟨_, o, h0, _⟩ := mem_ready.1 hr'
    rw [show Pm.pk l (k :: ks) = o :: Pm.pk l ks by rw [Pm.pk, Pm.pk_get h0]] at h
    have hy : ∃ v, YieldsJ P l.toArray J o v a ∧ wpJ P l.toArray J (fun a' => sTree P Q J l es t a' w) (Pm.pk l ks) (a.put o.dst v) := by
      unfold wpJ at h
      by_cases hw : Region.wanted o (yielded l.toArray a.tmps) = true
      · rw [if_pos hw] at h
        obtain ⟨v, h1, h2⟩ := h
        exact ⟨v, .inl ⟨hw, h1⟩, h2⟩
      · rw [if_neg hw] at h
        exact ⟨undef, .inr ⟨by simpa using hw, rfl⟩, h⟩
    obtain ⟨v, hy, hK⟩ := hy
    have hrec := headT hsel hQ ks _ (a.put o.dst v) w hB' (hc.set hr') hJ hK
    have e : (k :: ks).length + (t.cnt + es.length) = ks.length + (t.cnt + es.length) + 1 := by simp; omega
    rw [e]
    exact firstJ h0 (Region.noSelect_spec hsel) (fun c a w h => absurd h (hQ _ _ _)) (fun d hdu hds => by simp at hdu) _ listed a w (Region.free_spec h0 hf) hc hr' hy hJ hrec
end
/-- The tree, over frames. -/
def wt (P : Program) (n : Nat) (Q : Post) (J : World → Prop) (l : List Oper) (es : List Nat) : OT → (Nat → Value) → World → Prop
  | .fin, σ, w => jq P n l.toArray J (fun σ' => Q .normal σ' w) (Pm.pk l es) σ
  | .one k t, σ, w => kq P n l.toArray Q J (l.getD k Pm.dflt) (wt P n Q J l es t) σ w
  | .two x tx y ty, σ, w => kq P n l.toArray Q J (l.getD x Pm.dflt) (wt P n Q J l es tx) σ w ∧ kq P n l.toArray Q J (l.getD y Pm.dflt) (wt P n Q J l es ty) σ w
theorem oneK_mono {P : Program} {ops : Array Oper} {Q : Exit → Act → World → Prop} {J : World → Prop} {o : Oper} {K K' : Act → World → Prop} {a : Act} {w : World} {i : Nat} (hi : ops[i]? = some o) (hK : ∀ a w, K a w → K' a w) (h : oneK P ops Q J o K a w) : oneK P ops Q J o K' a w := by
  have h2 : sOp P ops Q i (fun a w => J w ∧ K a w) a w := by unfold sOp; simp only [hi]; exact h
  have h3 := sOp_mono (fun a' w' (⟨hj, hk⟩ : J w' ∧ K a' w') => (⟨hj, hK _ _ hk⟩ : J w' ∧ K' a' w')) h2
  unfold sOp at h3
  simp only [hi] at h3
  exact h3
theorem wt_sound {P : Program} {n : Nat} {Q : Post} {J : World → Prop} {l : List Oper} {es : List Nat} : ∀ (t : OT) (listed : Array Bool) (σ : Nat → Value) (w : World), treeB .any l.toArray es t listed = true → wt P n Q J l es t σ w → sTree P (lift n Q) J l es t (Fr n σ) w
  | .fin, listed, σ, w, _, h => by
    have mono : ∀ (l' : List Oper) (a : Act), wpJ P l.toArray J (fun a => ∃ σ', a = Fr n σ' ∧ Q .normal σ' w) l' a → wpJ P l.toArray J (fun a' => lift n Q .normal a' w) l' a := by
      intro l'
      induction l' with
      | nil => rintro a ⟨σ', rfl, hh⟩; exact ⟨σ', rfl, hh⟩
      | cons o r ih =>
        intro a ha
        unfold wpJ at ha ⊢
        split
        · rename_i hw; rw [if_pos hw] at ha; obtain ⟨v, h1, h2⟩ := ha; exact ⟨v, h1, ih _ h2⟩
        · rename_i hw; rw [if_neg hw] at ha; exact ih _ ha
    exact mono _ _ (show jq P n l.toArray J (fun σ' => Q .normal σ' w) (Pm.pk l es) σ from h).out
  | .one k t, listed, σ, w, hB, h => by
    simp only [treeB, Bool.and_eq_true, decide_eq_true_eq] at hB
    obtain ⟨_, o, h0, _⟩ := mem_ready.1 (by rw [hB.1]; exact List.mem_singleton.2 rfl : k ∈ Region.ready .any l.toArray listed)
    have h' := (show kq P n l.toArray Q J (l.getD k Pm.dflt) (wt P n Q J l es t) σ w from h).out
    show oneK P l.toArray (lift n Q) J (l.getD k Pm.dflt) (sTree P (lift n Q) J l es t) (Fr n σ) w
    rw [Pm.pk_get h0] at h' ⊢
    exact oneK_mono h0 (fun a w ⟨σ', e, h2⟩ => by rw [e]; exact wt_sound t _ σ' w hB.2 h2) h'
  | .two x tx y ty, listed, σ, w, hB, h => by
    simp only [treeB, Bool.and_eq_true, decide_eq_true_eq] at hB
    obtain ⟨⟨⟨hr, _⟩, b1⟩, b2⟩ := hB
    obtain ⟨_, o, h0, _⟩ := mem_ready.1 (by rw [hr]; simp : x ∈ Region.ready .any l.toArray listed)
    obtain ⟨_, o2, h02, _⟩ := mem_ready.1 (by rw [hr]; simp : y ∈ Region.ready .any l.toArray listed)
    have h1 := (show kq P n l.toArray Q J (l.getD x Pm.dflt) (wt P n Q J l es tx) σ w ∧ kq P n l.toArray Q J (l.getD y Pm.dflt) (wt P n Q J l es ty) σ w from h).1.out
    have h2 := (show kq P n l.toArray Q J (l.getD x Pm.dflt) (wt P n Q J l es tx) σ w ∧ kq P n l.toArray Q J (l.getD y Pm.dflt) (wt P n Q J l es ty) σ w from h).2.out
    refine ⟨?_, ?_⟩
    · rw [Pm.pk_get h0] at h1 ⊢
      exact oneK_mono h0 (fun a w ⟨σ', e, h2⟩ => by rw [e]; exact wt_sound tx _ σ' w b1 h2) h1
    · rw [Pm.pk_get h02] at h2 ⊢
      exact oneK_mono h02 (fun a w ⟨σ', e, h2⟩ => by rw [e]; exact wt_sound ty _ σ' w b2 h2) h2
section
variable {P : Program} {n : Nat} {ops : Array Oper} {Q : Post} {J : World → Prop} {o : Oper} {K : (Nat → Value) → World → Prop} {σ : Nat → Value} {w : World} {v : Value} {l : List Oper} {es : List Nat}
theorem wt_fin (h : jq P n l.toArray J (fun σ' => Q .normal σ' w) (Pm.pk l es) σ) : wt P n Q J l es .fin σ w := h
theorem wt_one {k : Nat} {t : OT} (h : kq P n l.toArray Q J (l.getD k Pm.dflt) (wt P n Q J l es t) σ w) : wt P n Q J l es (.one k t) σ w := h
theorem wt_two {x y : Nat} {tx ty : OT} (h1 : kq P n l.toArray Q J (l.getD x Pm.dflt) (wt P n Q J l es tx) σ w) (h2 : kq P n l.toArray Q J (l.getD y Pm.dflt) (wt P n Q J l es ty) σ w) : wt P n Q J l es (.two x tx y ty) σ w := ⟨h1, h2⟩
theorem kq_valE {R : Value → World → Prop} (hw : wantS o ops n σ = true) (h : ∃ v w', Runs P (opv (cut n σ)) o w (.ok (.value v) w') ∧ R v w') (k : ∀ v w', R v w' → J w' ∧ K (updO σ o.dst v) w') : kq P n ops Q J o K σ w := by
  obtain ⟨v, w', hrun, hr⟩ := h
  refine ⟨?_⟩
  unfold oneK
  rw [if_pos (by rw [yielded_eq]; exact hw)]
  left
  left
  unfold Oper.wp
  rw [Fr_eval, hrun.out, Oper.upon_value, Fr_put]
  exact ⟨(k v w' hr).1, _, rfl, (k v w' hr).2⟩
theorem kq_callR {f : FuncId} {args : Array Value} {R : Value → World → Prop} (hw : wantS o ops n σ = true) (hrun : Runs P (opv (cut n σ)) o w (.ok (.enter f args) w)) (hc : CallsR P f args w R)
    (k : ∀ v w1, Below w.heap.size w w1 → R v w1 → J w1 ∧ K (updO σ o.dst v) w1) : kq P n ops Q J o K σ w := by
  refine ⟨?_⟩
  unfold oneK
  rw [if_pos (by rw [yielded_eq]; exact hw)]
  left
  left
  unfold Oper.wp
  rw [Fr_eval, hrun.out, Oper.upon_enter]
  refine Calls.mono hc.out fun e w1 ⟨v, he, hb, hR⟩ => ?_
  subst he
  exact ⟨(k v w1 hb hR).1, updO σ o.dst v, by rw [Fr_put], (k v w1 hb hR).2⟩
end
theorem WP_drawT {P : Program} {n : Nat} {Q : Post} {σ : Nat → Value} {w : World} {id : Nat} {l : List Oper} (J : World → Prop) (hs : List Nat) (t : OT) (es : List Nat) (hm : P.follows .mixedOrders = true) (hz : Nat.beq (hs.length + (t.cnt + es.length)) l.length = true) (hB : permTB .any l.toArray hs t es = true)
    (hJ : ∀ w', Below w.heap.size w w' → J w')
    (h : ∀ w', Below w.heap.size w w' → jq P n l.toArray J (fun σ' => wt P n (calm Q) J l es t σ' w') (Pm.pk l hs) σ) : WP P n (.region id l.toArray true) Q σ w := by
  refine ⟨sw_mono NoPanic.imp (sw_any hm (sAny_of_J (J := J) (nj := fun d => !([] : List Nat).contains d) _ _ _ _ ?_))⟩
  simp only [permTB, Bool.and_eq_true] at hB
  have hq : lift n (calm Q) = NoPanic (lift n Q) := by
    funext e a w
    cases e <;> simp [lift, calm, NoPanic]
  have hb : Below w.heap.size w { w with drawn := w.drawn + 1 } := drew_grown w
  have key := headT (P := P) (Q := NoPanic (lift n Q)) (md := .any) (J := J) (l := l) (t := t) (es := es) hB.1 (fun c a w h => by simp [NoPanic] at h) hs (Array.replicate l.toArray.size false) (Fr n σ) { w with drawn := w.drawn + 1 } hB.2 (fun j oj _ hl => by rw [getD_replicate_false] at hl; cases hl) (hJ _ hb)
  have e : hs.length + (t.cnt + es.length) = l.toArray.size := by simpa using Nat.eq_of_beq_eq_true hz
  rw [e] at key
  refine key ?_
  have last : ∀ (ks : List Nat) (listed : Array Bool), headTB .any l.toArray t es ks listed = true → ∃ listed', treeB .any l.toArray es t listed' = true := by
    intro ks
    induction ks with
    | nil => intro listed h; exact ⟨listed, h⟩
    | cons k ks ih => intro listed h; simp only [headTB, Bool.and_eq_true] at h; exact ih _ h.2
  obtain ⟨listed', hl'⟩ := last hs _ hB.2
  have mono : ∀ (l' : List Oper) (a : Act), wpJ P l.toArray J (fun a => ∃ σ', a = Fr n σ' ∧ wt P n (calm Q) J l es t σ' { w with drawn := w.drawn + 1 }) l' a →
      wpJ P l.toArray J (fun a' => sTree P (NoPanic (lift n Q)) J l es t a' { w with drawn := w.drawn + 1 }) l' a := by
    intro l'
    induction l' with
    | nil => rintro a ⟨σ', rfl, hh⟩; rw [← hq]; exact wt_sound t listed' σ' _ hl' hh
    | cons o r ih =>
      intro a ha
      unfold wpJ at ha ⊢
      split
      · rename_i hw; rw [if_pos hw] at ha; obtain ⟨v, h1, h2⟩ := ha; exact ⟨v, h1, ih _ h2⟩
      · rename_i hw; rw [if_neg hw] at ha; exact ih _ ha
  exact mono _ _ (h _ hb).out
end Go.Gx
/-
  A range over a function: the loop's record and the block for deferred calls are objects of the call's own; frames that bear marks of such loops.
-/
namespace Go.Gx
open Go Go.RowKit
set_option linter.unusedVariables false
set_option linter.unusedSimpArgs false

/-! ### Objects told raw -/
theorem St.rawAt {w0 w : World} {os : List Ob} (S : St w0 w os) {i b : Nat} {o : Obj} (hi : os[i]? = some (.raw b o)) : w.heap[b]? = some o := (S.ok _ (mem_of_get hi)).2
theorem St.putRaw {w0 w : World} {os : List Ob} (S : St w0 w os) {i b : Nat} {o : Obj} (o' : Obj) (hi : os[i]? = some (.raw b o)) : St w0 (w.putObj b o') (os.set i (.raw b o')) := by
  have h := S.ok _ (mem_of_get hi)
  exact S.write hi (grownBy_putObj' w b o') ⟨h.1, World.putObj_heap_same (heap_lt h.2)⟩ (.inl rfl)
theorem St.newRaw {w0 w : World} {os : List Ob} (S : St w0 w os) (o : Obj) : St w0 (w.alloc o) (.raw w.heap.size o :: os) :=
  (S.new (o := .raw w.heap.size o) (below_alloc w o) ⟨Nat.le_refl _, World.alloc_heap_new w o⟩).front

/-! ### The loop's record, and a round -/
abbrev recL (fn : FuncId) (tmps : Array Value) (ps : Array Tmp) (assign body : Code) (Dk : Nat) : Loop := { state := .ready, pending := none, fn := fn, tmps := tmps, params := ps, assign := assign, body := body, defers := Dk }
abbrev recJ (r : Loop) (jump : Option Code) : Loop := { r with state := if jump.isNone then .ready else .done, pending := jump }
theorem recJ_none (r : Loop) (h : r.state = .ready) (h2 : r.pending = none) : recJ { r with state := .busy } none = r := by cases r; simp at h h2; subst h h2; rfl

/-- How a round may be left. -/
def jumpOf : Exit → Option (Option Code)
  | .normal => some none
  | .ret => some (some .ret)
  | .exit id => some (some (.exit id))
  | _ => none

theorem round_WP {P : Program} {n L : Nat} {r : Loop} {w0 w : World} {os : List Ob} {σ1 : Nat → Value} {tmps : Array Value} {R : Value → World → Prop} (S : St w0 w (.raw L (.loop r) :: os)) (hr : r.state = .ready) (hd1 : noDefer r.assign = true) (hd2 : noDefer r.body = true)
    (ht : tmps = (Fr n σ1).tmps)
    (h : WP P n r.assign (fun e σ2 w2 => e = .normal ∧ ∃ os2, St w0 w2 (.raw L (.loop r) :: os2) ∧ ∀ w3, St w0 w3 (.raw L (.loop { r with state := .busy }) :: os2) →
      WP P n r.body (fun e σ4 w4 => ∃ jump os4, jumpOf e = some jump ∧ St w0 w4 (.raw L (.loop { r with state := .busy }) :: os4) ∧ ∀ w5, St w0 w5 (.raw L (.loop (recJ r jump)) :: os4) → R (.bool jump.isNone) w5) σ2 w3) σ1 w) :
    RoundIn Fence.wide 0 P L r.fn tmps r.assign r.body w fun e w'' => ∃ v, e = .returned v ∧ R v w'' := by
  subst ht
  refine roundIn_of_wpIn trivial ?_
  have z := sw_in (r := some L) (m := 0) (D := []) (.inr hd1) (by rintro ⟨a, w, σ', _, h⟩; cases h.1) h.out
  rw [actD_nil] at z
  have e0 : Fr n σ1 = { tmps := (Fr n σ1).tmps, defers := [] } := rfl
  rw [← e0]
  refine wpIn_mono (F := widR (some L)) z ?_
  rintro e a2 w2 ⟨b, hb, σ2, ha, he, os2, S2, hk⟩
  subst he ha
  rw [actD_nil] at hb
  subst hb
  have hrun := run_beginRound (P := P) (S2.rawAt (i := 0) rfl) hr
  refine ⟨_, hrun, ?_⟩
  have S3 : St w0 _ (.raw L (.loop { r with state := .busy }) :: os2) := S2.putRaw (i := 0) (.loop { r with state := .busy }) rfl
  have z := sw_in (r := some L) (m := 0) (D := []) (.inr hd2) (by rintro ⟨a, w, σ', _, j, os4, h, _⟩; cases h) (hk _ S3).out
  rw [actD_nil] at z
  refine wpIn_mono (F := widR (some L)) z ?_
  rintro e a4 w4 ⟨b, hb, σ4, ha, jump, os4, hj, S4, hk4⟩
  subst ha
  have hend := fun (j : Option Code) => run_endRound (P := P) j (S4.rawAt (i := 0) rfl)
  have S5 : St w0 _ (.raw L (.loop (recJ r jump)) :: os4) := S4.putRaw (i := 0) (.loop (recJ r jump)) rfl
  cases e with
  | normal => cases hj; exact ⟨_, _, hend none, _, rfl, hk4 _ S5⟩
  | ret => cases hj; exact ⟨_, _, hend (some .ret), _, rfl, hk4 _ S5⟩
  | exit id => cases hj; exact ⟨_, _, hend (some (.exit id)), _, rfl, hk4 _ S5⟩
  | goto t => cases hj
  | panic c => cases hj
  | outgrown => cases hj

/-- A call of yield. -/
theorem r_yield1 {P : Program} {ρ : Operand → Value} {w w0 : World} {d : Option Tmp} {ty : TypeId} {pos : String} {af : Array Edge} {g : Option (Nat × Bool)} {fo a0 : Operand} {v0 : Value} {L i : Nat} {r : Loop} {p : Tmp} {ats : Array TypeId} {os : List Ob} (S : St w0 w os) (hi : os[i]? = some (.raw L (.loop r)))
    (hf : ρ fo = .func (.yield L) #[] #[]) (h0 : ρ a0 = v0) (hp : r.params = #[p]) :
    Runs P ρ ⟨d, .call { callee := .value fo, args := #[a0], argTypes := ats }, ty, pos, af, g⟩ w (.ok (.round L r.fn (r.tmps.setIfInBounds p v0) r.assign r.body) w) :=
  ⟨by
    have e := run_yield (P := P) (args := #[v0]) (S.rawAt hi) (by rw [hp]; rfl)
    rw [hp] at e
    simp only [execOp, resolve, hf, Deferred.ofValue, List.map_toArray, List.map_cons, List.map_nil, h0]
    simpa [invoke, bind, Sem.bind, pure] using e⟩
theorem Fr_set (n : Nat) (σ : Nat → Value) (p : Nat) (v : Value) : (Fr n σ).tmps.setIfInBounds p v = (Fr n (upd σ p v)).tmps := congrArg Act.tmps (Fr_put n σ (some p) v)

/-! ### Frames that bear marks -/
def markD (b : Nat) : Deferred := { target := .collected b, args := #[] }
abbrev PostD := Exit → List Nat → (Nat → Value) → World → Prop
def liftD (n : Nat) (Q : PostD) : Exit → Act → World → Prop := fun e a w => ∃ D σ, a = actD (D.map markD) (Fr n σ) ∧ Q e D σ w
structure WD (P : Program) (n : Nat) (c : Code) (Q : PostD) (D : List Nat) (σ : Nat → Value) (w : World) : Prop where mk :: (out : c.wpIn Fence.wide 0 P (liftD n Q) (actD (D.map markD) (Fr n σ)) w)
class NoOut (Q : PostD) : Prop where out : ∀ D σ w, ¬ Q .outgrown D σ w
section
variable {P : Program} {n : Nat} {Q : PostD} {D : List Nat} {σ : Nat → Value} {w : World}
theorem WD_of {c : Code} [hQ : NoOut Q] (h : WP P n c (fun e σ w => Q e D σ w) σ w) : WD P n c Q D σ w := ⟨by
  have z := sw_in (r := none) (m := 0) (D := D.map markD) (.inl rfl) (by rintro ⟨a, w, σ', _, h⟩; exact hQ.out _ _ _ h) h.out
  refine wpIn_mono (F := Fence.wide) z ?_
  rintro e a w1 ⟨b, hb, σ', ha, hq⟩
  subst ha
  exact ⟨D, σ', hb, hq⟩⟩
def thenDP (k : List Nat → (Nat → Value) → World → Prop) (Q : PostD) : PostD
  | .normal, D, σ, w => k D σ w
  | e, D, σ, w => Q e D σ w
def inBDP (id : Nat) (Q : PostD) : PostD
  | .exit id', D, σ, w => if id' = id then Q .normal D σ w else Q (.exit id') D σ w
  | e, D, σ, w => Q e D σ w
instance {k : List Nat → (Nat → Value) → World → Prop} [h : NoOut Q] : NoOut (thenDP k Q) := ⟨fun D σ w => h.out D σ w⟩
instance {id : Nat} [h : NoOut Q] : NoOut (inBDP id Q) := ⟨fun D σ w => h.out D σ w⟩
theorem WD_seq {x y : Code} (h : WD P n x (thenDP (WD P n y Q) Q) D σ w) : WD P n (.seq x y) Q D σ w := ⟨by
  refine wpIn_seq (wpIn_mono h.out ?_)
  rintro e a w1 ⟨D', σ', ha, hq⟩
  subst ha
  cases e with
  | normal => exact WD.out hq
  | exit id => exact ⟨D', σ', rfl, hq⟩
  | goto l => exact ⟨D', σ', rfl, hq⟩
  | ret => exact ⟨D', σ', rfl, hq⟩
  | panic c => exact ⟨D', σ', rfl, hq⟩
  | outgrown => exact ⟨D', σ', rfl, hq⟩⟩
theorem WD_block {id : Nat} {c : Code} (h : WD P n c (inBDP id Q) D σ w) : WD P n (.block id c) Q D σ w := ⟨by
  refine wpIn_block (wpIn_mono h.out ?_)
  rintro e a w1 ⟨D', σ', ha, hq⟩
  subst ha
  cases e with
  | exit id' =>
    have hq' : if id' = id then Q .normal D' σ' w1 else Q (.exit id') D' σ' w1 := hq
    show if id' = id then liftD n Q .normal _ w1 else liftD n Q (.exit id') _ w1
    by_cases e : id' = id
    · rw [if_pos e] at hq' ⊢; exact ⟨D', σ', rfl, hq'⟩
    · rw [if_neg e] at hq' ⊢; exact ⟨D', σ', rfl, hq'⟩
  | normal => exact ⟨D', σ', rfl, hq⟩
  | goto l => exact ⟨D', σ', rfl, hq⟩
  | ret => exact ⟨D', σ', rfl, hq⟩
  | panic c => exact ⟨D', σ', rfl, hq⟩
  | outgrown => exact ⟨D', σ', rfl, hq⟩⟩
theorem WD_loop {c : Code} (I : Nat → List Nat → (Nat → Value) → World → Prop) (k0 : Nat) (h0 : I k0 D σ w)
    (round : ∀ k D σ w, I k D σ w → WD P n c (thenDP (fun D σ w => ∃ k', k' < k ∧ I k' D σ w) Q) D σ w) : WD P n (.loop c) Q D σ w := ⟨by
  refine wpIn_loop_ghost (fun k a w => ∃ D σ', a = actD (D.map markD) (Fr n σ') ∧ I k D σ' w) k0 ⟨D, σ, rfl, h0⟩ ?_
  rintro k a w ⟨D', σ', rfl, hI⟩
  refine wpIn_mono (round k D' σ' w hI).out ?_
  rintro e a w1 ⟨D2, σ2, ha, hq⟩
  subst ha
  cases e with
  | normal => obtain ⟨k', hk, hI'⟩ := hq; exact ⟨k', hk, D2, σ2, rfl, hI'⟩
  | exit id => exact ⟨D2, σ2, rfl, hq⟩
  | goto l => exact ⟨D2, σ2, rfl, hq⟩
  | ret => exact ⟨D2, σ2, rfl, hq⟩
  | panic c => exact ⟨D2, σ2, rfl, hq⟩
  | outgrown => exact ⟨D2, σ2, rfl, hq⟩⟩
theorem thenD_normal {k : List Nat → (Nat → Value) → World → Prop} (h : k D σ w) : thenDP k Q .normal D σ w := h
theorem thenD_exit {k : List Nat → (Nat → Value) → World → Prop} {id : Nat} (h : Q (.exit id) D σ w) : thenDP k Q (.exit id) D σ w := h
theorem thenD_ret {k : List Nat → (Nat → Value) → World → Prop} (h : Q .ret D σ w) : thenDP k Q .ret D σ w := h
theorem inBD_normal {id : Nat} (h : Q .normal D σ w) : inBDP id Q .normal D σ w := h
theorem inBD_ret {id : Nat} (h : Q .ret D σ w) : inBDP id Q .ret D σ w := h
theorem inBD_here {id : Nat} (h : Q .normal D σ w) : inBDP id Q (.exit id) D σ w := by
  show if id = id then Q .normal D σ w else Q (.exit id) D σ w
  rw [if_pos rfl]; exact h
theorem WD_has {c : Code} {l : List (Nat × Value)} (h : Has σ l) (k : WD P n c Q D (upds σ l) w) : WD P n c Q D σ w := by rwa [upds_self h] at k
theorem WD_ret (h : Q .ret D σ w) : WD P n .ret Q D σ w := ⟨wpIn_ret ⟨D, σ, rfl, h⟩⟩
theorem WD_exit {id : Nat} (h : Q (.exit id) D σ w) : WD P n (.exit id) Q D σ w := ⟨wpIn_exit ⟨D, σ, rfl, h⟩⟩
/-- The statement. -/
theorem WD_range {g : Operand} {ps : Array Tmp} {assign body : Code} {w0 : World} {os : List Ob} {gf : Nat} {lb : List Value} [he : Enters P gf] (S : St w0 w os) (hg : opv (cut n σ) g = .func (.func gf) #[] lb.toArray)
    (h : ∀ (fn L Dk : Nat) (w1 : World) (r : Loop), r = recL fn (Fr n σ).tmps ps assign body Dk → St w0 w1 (.raw L (.loop r) :: .raw Dk (.deferred (some [])) :: os) →
      Calls P gf (.func (.yield L) #[] #[] :: lb).toArray w1 fun e w' => (∃ v, e = .returned v) ∧ ∃ jump os', St w0 w' (.raw L (.loop (recJ r jump)) :: os') ∧
        ∀ w2, St w0 w2 os' → match jump with | none => Q .normal (Dk :: D) σ w2 | some c => WD P n c Q (Dk :: D) σ w2) :
    WD P n (.rangeFunc g ps assign body) Q D σ w := ⟨by
  refine wpIn_rangeFunc fun fn _ => ?_
  have hent := run_enterLoop_outer (P := P) (w := w) fn (Fr n σ).tmps ps assign body
  have S1 := (S.newRaw (.deferred (some []))).newRaw (.loop (recL fn (Fr n σ).tmps ps assign body w.heap.size))
  rw [World.size_alloc] at S1
  refine ⟨_, _, _, { target := .fn (.func gf) lb.toArray, args := #[.func (.yield (w.heap.size + 1)) #[] #[]] }, (w.alloc (.deferred (some []))).alloc (.loop (recL fn (Fr n σ).tmps ps assign body w.heap.size)), gf, (.func (.yield (w.heap.size + 1)) #[] #[] :: lb).toArray, _, hent, ?_, fun _ _ => trivial, ?_, (fun h => nomatch h), callsIn_wide.2 (Calls.mono (h fn (w.heap.size + 1) w.heap.size _ _ rfl S1) ?_)⟩
  · have hev : (actD (D.map markD) (Fr n σ)).eval g = .func (.func gf) #[] lb.toArray := by rw [actD_eval, Fr_eval]; exact hg
    simp only [resolve, rangeCall, hev, Deferred.ofValue]
    simp [pure, Sem.run, Act.eval]
  · have := he.out (.func (.yield (w.heap.size + 1)) #[] #[] :: lb).toArray
      ((w.alloc (.deferred (some []))).alloc (.loop (recL fn (Fr n σ).tmps ps assign body w.heap.size)))
    simpa [invoke, bind, Sem.bind, pure] using this
  · rintro e w' ⟨⟨v, rfl⟩, jump, os', S', hk⟩
    have hend := run_endLoop (P := P) (S'.rawAt (i := 0) rfl) (by show (if jump.isNone then LoopState.ready else .done) ≠ .busy; split <;> simp)
    have S2 := (S'.putRaw (i := 0) (.loop { recJ (recL fn (Fr n σ).tmps ps assign body w.heap.size) jump with state := .exhausted }) rfl).tail
    refine ⟨jump, _, hend, ?_⟩
    have e0 : ({ actD (D.map markD) (Fr n σ) with defers := [{ target := .collected w.heap.size, args := #[] }] ++ (actD (D.map markD) (Fr n σ)).defers } : Act) = actD ((w.heap.size :: D).map markD) (Fr n σ) := by
      simp [actD, Fr, markD]
    have h2 := hk _ S2
    cases jump with
    | none => exact ⟨_, σ, e0, h2⟩
    | some c => show c.wpIn Fence.wide 0 P (liftD n Q) _ _; rw [e0]; exact h2.out⟩
end

/-! ### A call's begin and end -/
abbrev marks (D : List Nat) : List Ob := D.map fun b => .raw b (.deferred (some []))
def endDD (P : Program) (fn : Func) (n : Nat) (R : Ending → World → Prop) : PostD := fun e D σ w =>
  match e with
  | .normal | .ret => LeavesInM Fence.wide 0 P fn (Fr n σ).tmps R (D.map markD) .returning w
  | _ => False
instance {P : Program} {fn : Func} {n : Nat} {R : Ending → World → Prop} : NoOut (endDD P fn n R) := ⟨fun _ _ _ h => h⟩
theorem leaves_marks {P : Program} {fn : Func} {tmps : Array Value} {R : Ending → World → Prop} {w0 : World} {os : List Ob} (h : ∀ w', St w0 w' os → ∃ v, (results fn tmps).run P w' = .ok v w' ∧ R (.returned v) w') :
    ∀ (D : List Nat) (w : World), St w0 w (marks D ++ os) → LeavesInM Fence.wide 0 P fn tmps R (D.map markD) .returning w
  | [], w, S => h w S
  | b :: D, w, S => by
    refine ⟨by simp, .inl ⟨b, _, rfl, run_takeDeferred (S.rawAt (i := 0) rfl), leaves_marks h D _ ?_⟩⟩
    exact (S.putRaw (i := 0) (.deferred none) rfl).tail
theorem calls_enterD {P : Program} {f n : Nat} {fn : Func} {c : Code} {l : List Value} {w : World} {R : Ending → World → Prop} (hf : P.funcs[f]? = some fn) (hb : fn.body = some c)
    (hn : fn.ntmps = n) (hln' : Nat.ble l.length n = true) (h : WD P n c (endDD P fn n R) [] (args0 l 0) w) : Calls P f l.toArray w R := by
  subst hn
  have hln : l.length ≤ fn.ntmps := Nat.le_of_ble_eq_true hln'
  refine callsIn_wide.1 (callsIn_of_wp_marks (F := Fence.wide) (n := 0) hf hb trivial ?_)
  have hfr : ({ tmps := l.toArray ++ Array.replicate (fn.ntmps - l.toArray.size) undef, defers := [] } : Act) = Fr fn.ntmps (args0 l 0) := by
    unfold Fr
    congr 1
    apply Array.ext_getElem?
    intro i
    rw [Array.getElem?_ofFn, Array.getElem?_append]
    by_cases h1 : i < l.length
    · have h2 : i < fn.ntmps := by omega
      simp [h1, h2, args0_get]
    · by_cases h2 : i < fn.ntmps
      · have h3 : i - l.length < fn.ntmps - l.length := by omega
        simp [h1, h2, args0_get, h3]
      · have h3 : ¬ i - l.length < fn.ntmps - l.length := by omega
        simp [h1, h2, h3]
  rw [hfr]
  have z := h.out
  rw [List.map_nil, actD_nil] at z
  refine wpIn_mono z ?_
  rintro e a w1 ⟨D, σ, rfl, hq⟩
  have ht : (actD (D.map markD) (Fr fn.ntmps σ)).tmps = (Fr fn.ntmps σ).tmps := rfl
  have hd : (actD (D.map markD) (Fr fn.ntmps σ)).defers = D.map markD := by simp [actD, Fr]
  cases e with
  | normal => show LeavesInM _ _ _ _ _ _ _ _ _; rw [ht, hd]; exact hq
  | ret => show LeavesInM _ _ _ _ _ _ _ _ _; rw [ht, hd]; exact hq
  | exit id => exact hq.elim
  | goto l => exact hq.elim
  | panic c => exact hq.elim
  | outgrown => exact hq.elim
/-- Two results that lie in variables. -/
theorem res_cells2 {P : Program} {fn : Func} {n : Nat} {σ : Nat → Value} {w0 w : World} {t u T T2 b b2 i i2 : Nat} {os : List Ob} {T' T2' : TypeId} {v v2 : Value} [hT : TF P T false 1] [hT2 : TF P T2 false 1]
    (hr : fn.results = #[.cell t T, .cell u T2]) (hv : cut n σ t = .pointer (some ⟨b, 0, none⟩)) (hv2 : cut n σ u = .pointer (some ⟨b2, 0, none⟩)) (S : St w0 w os) (hi : os[i]? = some (.var b T' [v])) (hi2 : os[i2]? = some (.var b2 T2' [v2])) :
    (results fn (Fr n σ).tmps).run P w = .ok (.tuple #[v, v2]) w := by
  unfold results
  rw [hr]
  refine (run_bind (mapM_two (b := v) (b2 := v2) (w1 := w) (w2 := w) ?_ ?_)).trans rfl
  · show (do loadVar T (← asAddr ((Fr n σ).tmps.getD t undef)) : Sem Value).run P w = _
    rw [Fr_getD, hv]
    exact loadVar1 S hi
  · show (do loadVar T2 (← asAddr ((Fr n σ).tmps.getD u undef)) : Sem Value).run P w = _
    rw [Fr_getD, hv2]
    exact loadVar1 S hi2
end Go.Gx
/-
  A region that draws its order: a tree of orders, with loads and values, told once, between what writes or grows the world.
-/
namespace Go.Gx
open Go Go.RowKit Go.Gx
set_option linter.unusedVariables false
set_option linter.unusedSimpArgs false

/-- The orders that are left. -/
inductive OU
  | fin
  | vals (ks : List Nat) (t : OU)
  | one (k : Nat) (t : OU)
  | two (x : Nat) (tx : OU) (y : Nat) (ty : OU)
  | three (x : Nat) (tx : OU) (y : Nat) (ty : OU) (z : Nat) (tz : OU)
def OU.cnt : OU → Nat
  | .fin => 0
  | .vals ks t => ks.length + t.cnt
  | .one _ t => t.cnt + 1
  | .two _ tx _ _ => tx.cnt + 1
  | .three _ tx _ _ _ _ => tx.cnt + 1
section
variable {P : Program} {ops : Array Oper} {Q : Exit → Act → World → Prop} {md : Region.Mode} {J : World → Prop}
def valsB (md : Region.Mode) (ops : Array Oper) (K : Array Bool → Bool) : List Nat → Array Bool → Bool
  | [], listed => K listed
  | k :: ks, listed => (Region.ready md ops listed).contains k && Region.free md ops listed k && valsB md ops K ks (listed.setIfInBounds k true)
def treeU (md : Region.Mode) (ops : Array Oper) : OU → Array Bool → Bool
  | .fin, listed => headJB md ops [] [] [] listed
  | .vals ks t, listed => valsB md ops (treeU md ops t) ks listed
  | .one k t, listed => decide (Region.ready md ops listed = [k]) && treeU md ops t (listed.setIfInBounds k true)
  | .two x tx y ty, listed => decide (Region.ready md ops listed = [x, y]) && Nat.beq tx.cnt ty.cnt && treeU md ops tx (listed.setIfInBounds x true) && treeU md ops ty (listed.setIfInBounds y true)
  | .three x tx y ty z tz, listed => decide (Region.ready md ops listed = [x, y, z]) && Nat.beq tx.cnt ty.cnt && Nat.beq tx.cnt tz.cnt && treeU md ops tx (listed.setIfInBounds x true) && treeU md ops ty (listed.setIfInBounds y true) && treeU md ops tz (listed.setIfInBounds z true)
def permU (md : Region.Mode) (ops : Array Oper) (t : OU) : Bool := Region.noSelect ops && treeU md ops t (Array.replicate ops.size false)
def sTreeU (P : Program) (Q : Exit → Act → World → Prop) (J : World → Prop) (l : List Oper) : OU → Act → World → Prop
  | .fin, a, w => wpJ P l.toArray J (fun a' => Q .normal a' w) (Pm.pk l []) a
  | .vals ks t, a, w => wpJ P l.toArray J (fun a' => sTreeU P Q J l t a' w) (Pm.pk l ks) a
  | .one k t, a, w => oneK P l.toArray Q J (l.getD k Pm.dflt) (sTreeU P Q J l t) a w
  | .two x tx y ty, a, w => oneK P l.toArray Q J (l.getD x Pm.dflt) (sTreeU P Q J l tx) a w ∧ oneK P l.toArray Q J (l.getD y Pm.dflt) (sTreeU P Q J l ty) a w
  | .three x tx y ty z tz, a, w => oneK P l.toArray Q J (l.getD x Pm.dflt) (sTreeU P Q J l tx) a w ∧ oneK P l.toArray Q J (l.getD y Pm.dflt) (sTreeU P Q J l ty) a w ∧ oneK P l.toArray Q J (l.getD z Pm.dflt) (sTreeU P Q J l tz) a w
theorem vals_any {l : List Oper} {c : Nat} {K : Array Bool → Bool} {R : Act → World → Prop} (hsel : Region.noSelect l.toArray = true) (hQ : ∀ c a w, ¬ Q (.panic c) a w)
    (H : ∀ (listed : Array Bool) (a : Act) (w : World), K listed = true → ClosedG md l.toArray listed → J w → R a w → sAnyJ P md l.toArray Q J (fun d => !([] : List Nat).contains d) c listed a w) :
    ∀ (ks : List Nat) (listed : Array Bool) (a : Act) (w : World), valsB md l.toArray K ks listed = true → ClosedG md l.toArray listed → J w →
    wpJ P l.toArray J (fun a' => R a' w) (Pm.pk l ks) a → sAnyJ P md l.toArray Q J (fun d => !([] : List Nat).contains d) (ks.length + c) listed a w
  | [], listed, a, w, hB, hc, hJ, h => by
    simp only [List.length_nil, Nat.zero_add]
    exact H listed a w hB hc hJ h
  | k :: ks, listed, a, w, hB, hc, hJ, h => by
    simp only [valsB, Bool.and_eq_true] at hB
    obtain ⟨⟨hr, hf⟩, hB'⟩ := hB
    have hr' : k ∈ Region.ready md l.toArray listed := by simpa using hr
    obtain ⟨_, o, h0, _⟩ := mem_ready.1 hr'
    rw [show Pm.pk l (k :: ks) = o :: Pm.pk l ks by rw [Pm.pk, Pm.pk_get h0]] at h
    have hy : ∃ v, YieldsJ P l.toArray J o v a ∧ wpJ P l.toArray J (fun a' => R a' w) (Pm.pk l ks) (a.put o.dst v) := by
      unfold wpJ at h
      by_cases hw : Region.wanted o (yielded l.toArray a.tmps) = true
      · rw [if_pos hw] at h
        obtain ⟨v, h1, h2⟩ := h
        exact ⟨v, .inl ⟨hw, h1⟩, h2⟩
      · rw [if_neg hw] at h
        exact ⟨undef, .inr ⟨by simpa using hw, rfl⟩, h⟩
    obtain ⟨v, hy, hK⟩ := hy
    have hrec := vals_any hsel hQ H ks _ (a.put o.dst v) w hB' (hc.set hr') hJ hK
    have e : (k :: ks).length + c = ks.length + c + 1 := by simp; omega
    rw [e]
    exact firstJ h0 (Region.noSelect_spec hsel) (fun c a w h => absurd h (hQ _ _ _)) (fun d hdu hds => by simp at hdu) _ listed a w (Region.free_spec h0 hf) hc hr' hy hJ hrec
theorem step_any {l : List Oper} {t : OU} {listed : Array Bool} {a : Act} {w : World} {i : Nat} (hi0 : i ∈ Region.ready md l.toArray listed) (hc : ClosedG md l.toArray listed) (h : oneK P l.toArray Q J (l.getD i Pm.dflt) (sTreeU P Q J l t) a w)
    (H : ∀ (a : Act) (w : World), ClosedG md l.toArray (listed.setIfInBounds i true) → J w → sTreeU P Q J l t a w → sAnyJ P md l.toArray Q J (fun d => !([] : List Nat).contains d) t.cnt (listed.setIfInBounds i true) a w) :
    sOp P l.toArray Q i (fun a' w' => ((fun d => !([] : List Nat).contains d) i = true → J w') ∧ sAnyJ P md l.toArray Q J (fun d => !([] : List Nat).contains d) t.cnt (listed.setIfInBounds i true) a' w') a w := by
  obtain ⟨hun, o, h0, _⟩ := mem_ready.1 hi0
  rw [Pm.pk_get h0] at h
  have hw : sOp P l.toArray Q i (fun a' w' => J w' ∧ sTreeU P Q J l t a' w') a w := by unfold sOp; simp only [h0]; exact h
  exact sOp_mono (fun a' w' h' => ⟨fun _ => h'.1, H a' w' (hc.set hi0) h'.1 h'.2⟩) hw
theorem treeU_any {l : List Oper} (hsel : Region.noSelect l.toArray = true) (hQ : ∀ c a w, ¬ Q (.panic c) a w) : ∀ (t : OU) (listed : Array Bool) (a : Act) (w : World),
    treeU md l.toArray t listed = true → ClosedG md l.toArray listed → J w → sTreeU P Q J l t a w → sAnyJ P md l.toArray Q J (fun d => !([] : List Nat).contains d) t.cnt listed a w
  | .fin, listed, a, w, hB, hc, hJ, h => by
    have := headJ (P := P) (Q := Q) (md := md) (J := J) (l := l) (ts := []) (us := []) hsel hQ [] listed a w hB hc hJ h
    simpa [OU.cnt] using this
  | .vals ks t, listed, a, w, hB, hc, hJ, h => vals_any hsel hQ (fun listed a w => treeU_any hsel hQ t listed a w) ks listed a w hB hc hJ h
  | .one k t, listed, a, w, hB, hc, hJ, h => by
    simp only [treeU, Bool.and_eq_true, decide_eq_true_eq] at hB
    show sAnyJ P md l.toArray Q J _ (t.cnt + 1) listed a w
    refine ⟨fun h1 => (by rw [hB.1] at h1; cases h1), fun i hi => ?_⟩
    have hi0 := hi
    rw [hB.1] at hi
    have hik : i = k := by simpa using hi
    subst hik
    exact step_any hi0 hc h (fun a w hc hJ h => treeU_any hsel hQ t _ a w hB.2 hc hJ h)
  | .two x tx y ty, listed, a, w, hB, hc, hJ, h => by
    simp only [treeU, Bool.and_eq_true, decide_eq_true_eq] at hB
    obtain ⟨⟨⟨hr, hcnt⟩, h1⟩, h2⟩ := hB
    have hce := Nat.eq_of_beq_eq_true hcnt
    show sAnyJ P md l.toArray Q J _ (tx.cnt + 1) listed a w
    refine ⟨fun h1 => (by rw [hr] at h1; cases h1), fun i hi => ?_⟩
    have hi0 := hi
    rw [hr] at hi
    have hik : i = x ∨ i = y := by simpa using hi
    rcases hik with hik | hik
    · subst hik
      exact step_any hi0 hc h.1 (fun a w hc hJ h => treeU_any hsel hQ tx _ a w h1 hc hJ h)
    · subst hik
      rw [hce]
      exact step_any hi0 hc h.2 (fun a w hc hJ h => treeU_any hsel hQ ty _ a w h2 hc hJ h)
  | .three x tx y ty z tz, listed, a, w, hB, hc, hJ, h => by
    simp only [treeU, Bool.and_eq_true, decide_eq_true_eq] at hB
    obtain ⟨⟨⟨⟨⟨hr, hcnt⟩, hcnt2⟩, h1⟩, h2⟩, h3⟩ := hB
    have hce := Nat.eq_of_beq_eq_true hcnt
    have hce2 := Nat.eq_of_beq_eq_true hcnt2
    show sAnyJ P md l.toArray Q J _ (tx.cnt + 1) listed a w
    refine ⟨fun h1 => (by rw [hr] at h1; cases h1), fun i hi => ?_⟩
    have hi0 := hi
    rw [hr] at hi
    have hik : i = x ∨ i = y ∨ i = z := by simpa using hi
    rcases hik with hik | hik | hik
    · subst hik
      exact step_any hi0 hc h.1 (fun a w hc hJ h => treeU_any hsel hQ tx _ a w h1 hc hJ h)
    · subst hik
      rw [hce]
      exact step_any hi0 hc h.2.1 (fun a w hc hJ h => treeU_any hsel hQ ty _ a w h2 hc hJ h)
    · subst hik
      rw [hce2]
      exact step_any hi0 hc h.2.2 (fun a w hc hJ h => treeU_any hsel hQ tz _ a w h3 hc hJ h)
end
/-- The tree, over frames. -/
def wu (P : Program) (n : Nat) (Q : Post) (J : World → Prop) (l : List Oper) : OU → (Nat → Value) → World → Prop
  | .fin, σ, w => Q .normal σ w
  | .vals ks t, σ, w => jq P n l.toArray J (fun σ' => wu P n Q J l t σ' w) (Pm.pk l ks) σ
  | .one k t, σ, w => kq P n l.toArray Q J (l.getD k Pm.dflt) (wu P n Q J l t) σ w
  | .two x tx y ty, σ, w => kq P n l.toArray Q J (l.getD x Pm.dflt) (wu P n Q J l tx) σ w ∧ kq P n l.toArray Q J (l.getD y Pm.dflt) (wu P n Q J l ty) σ w
  | .three x tx y ty z tz, σ, w => kq P n l.toArray Q J (l.getD x Pm.dflt) (wu P n Q J l tx) σ w ∧ kq P n l.toArray Q J (l.getD y Pm.dflt) (wu P n Q J l ty) σ w ∧ kq P n l.toArray Q J (l.getD z Pm.dflt) (wu P n Q J l tz) σ w
theorem jq_tree {P : Program} {n : Nat} {Q : Post} {J : World → Prop} {l : List Oper} {K : (Nat → Value) → Prop} {K' : Act → Prop} {ks : List Nat} {σ : Nat → Value} (h : jq P n l.toArray J K (Pm.pk l ks) σ) (hK : ∀ σ', K σ' → K' (Fr n σ')) : wpJ P l.toArray J K' (Pm.pk l ks) (Fr n σ) := by
  have mono : ∀ (l' : List Oper) (a : Act), wpJ P l.toArray J (fun a => ∃ σ', a = Fr n σ' ∧ K σ') l' a → wpJ P l.toArray J K' l' a := by
    intro l'
    induction l' with
    | nil => rintro a ⟨σ', rfl, hh⟩; exact hK _ hh
    | cons o r ih =>
      intro a ha
      unfold wpJ at ha ⊢
      split
      · rename_i hw; rw [if_pos hw] at ha; obtain ⟨v, h1, h2⟩ := ha; exact ⟨v, h1, ih _ h2⟩
      · rename_i hw; rw [if_neg hw] at ha; exact ih _ ha
  exact mono _ _ h.out
theorem kq_tree {P : Program} {n : Nat} {Q : Post} {J : World → Prop} {l : List Oper} {K : (Nat → Value) → World → Prop} {K' : Act → World → Prop} {i : Nat} {md : Region.Mode} {listed : Array Bool} {σ : Nat → Value} {w : World} (hr : i ∈ Region.ready md l.toArray listed)
    (h : kq P n l.toArray Q J (l.getD i Pm.dflt) K σ w) (hK : ∀ σ' w', K σ' w' → K' (Fr n σ') w') : oneK P l.toArray (lift n Q) J (l.getD i Pm.dflt) K' (Fr n σ) w := by
  obtain ⟨_, o, h0, _⟩ := mem_ready.1 hr
  have h' := h.out
  rw [Pm.pk_get h0] at h' ⊢
  exact oneK_mono h0 (fun a w ⟨σ', e, h2⟩ => by rw [e]; exact hK σ' w h2) h'
theorem valsB_last {md : Region.Mode} {ops : Array Oper} {K : Array Bool → Bool} : ∀ {ks : List Nat} {listed : Array Bool}, valsB md ops K ks listed = true → ∃ listed', K listed' = true
  | [], listed, h => ⟨listed, h⟩
  | k :: ks, listed, h => by simp only [valsB, Bool.and_eq_true] at h; exact valsB_last h.2
theorem wu_sound {P : Program} {n : Nat} {Q : Post} {J : World → Prop} {l : List Oper} : ∀ (t : OU) (listed : Array Bool) (σ : Nat → Value) (w : World), treeU .any l.toArray t listed = true → wu P n Q J l t σ w → sTreeU P (lift n Q) J l t (Fr n σ) w
  | .fin, listed, σ, w, _, h => ⟨σ, rfl, h⟩
  | .vals ks t, listed, σ, w, hB, h => by
    obtain ⟨listed', hl⟩ := valsB_last (show valsB .any l.toArray (treeU .any l.toArray t) ks listed = true from hB)
    exact jq_tree (Q := Q) (show jq P n l.toArray J (fun σ' => wu P n Q J l t σ' w) (Pm.pk l ks) σ from h) (fun σ' h' => wu_sound t listed' σ' w hl h')
  | .one k t, listed, σ, w, hB, h => by
    simp only [treeU, Bool.and_eq_true, decide_eq_true_eq] at hB
    exact kq_tree (by rw [hB.1]; simp : k ∈ Region.ready .any l.toArray listed) h (fun σ' w' h' => wu_sound t _ σ' w' hB.2 h')
  | .two x tx y ty, listed, σ, w, hB, h => by
    simp only [treeU, Bool.and_eq_true, decide_eq_true_eq] at hB
    obtain ⟨⟨⟨hr, _⟩, b1⟩, b2⟩ := hB
    exact ⟨kq_tree (by rw [hr]; simp : x ∈ Region.ready .any l.toArray listed) h.1 (fun σ' w' h' => wu_sound tx _ σ' w' b1 h'), kq_tree (by rw [hr]; simp : y ∈ Region.ready .any l.toArray listed) h.2 (fun σ' w' h' => wu_sound ty _ σ' w' b2 h')⟩
  | .three x tx y ty z tz, listed, σ, w, hB, h => by
    simp only [treeU, Bool.and_eq_true, decide_eq_true_eq] at hB
    obtain ⟨⟨⟨⟨⟨hr, _⟩, _⟩, b1⟩, b2⟩, b3⟩ := hB
    exact ⟨kq_tree (by rw [hr]; simp : x ∈ Region.ready .any l.toArray listed) h.1 (fun σ' w' h' => wu_sound tx _ σ' w' b1 h'), kq_tree (by rw [hr]; simp : y ∈ Region.ready .any l.toArray listed) h.2.1 (fun σ' w' h' => wu_sound ty _ σ' w' b2 h'), kq_tree (by rw [hr]; simp : z ∈ Region.ready .any l.toArray listed) h.2.2 (fun σ' w' h' => wu_sound tz _ σ' w' b3 h')⟩
section
variable {P : Program} {n : Nat} {ops : Array Oper} {Q : Post} {J : World → Prop} {o : Oper} {K : (Nat → Value) → World → Prop} {σ : Nat → Value} {w : World} {v : Value} {l : List Oper}
theorem wu_fin (h : Q .normal σ w) : wu P n Q J l .fin σ w := h
theorem wu_vals {ks : List Nat} {t : OU} (h : jq P n l.toArray J (fun σ' => wu P n Q J l t σ' w) (Pm.pk l ks) σ) : wu P n Q J l (.vals ks t) σ w := h
theorem wu_one {k : Nat} {t : OU} (h : kq P n l.toArray Q J (l.getD k Pm.dflt) (wu P n Q J l t) σ w) : wu P n Q J l (.one k t) σ w := h
theorem wu_two {x y : Nat} {tx ty : OU} (h1 : kq P n l.toArray Q J (l.getD x Pm.dflt) (wu P n Q J l tx) σ w) (h2 : kq P n l.toArray Q J (l.getD y Pm.dflt) (wu P n Q J l ty) σ w) : wu P n Q J l (.two x tx y ty) σ w := ⟨h1, h2⟩
theorem wu_three {x y z : Nat} {tx ty tz : OU} (h1 : kq P n l.toArray Q J (l.getD x Pm.dflt) (wu P n Q J l tx) σ w) (h2 : kq P n l.toArray Q J (l.getD y Pm.dflt) (wu P n Q J l ty) σ w) (h3 : kq P n l.toArray Q J (l.getD z Pm.dflt) (wu P n Q J l tz) σ w) : wu P n Q J l (.three x tx y ty z tz) σ w := ⟨h1, h2, h3⟩
theorem kq_val (hw : wantS o ops n σ = true) (hrun : Runs P (opv (cut n σ)) o w (.ok (.value v) w)) (hJ : J w) (k : K (updO σ o.dst v) w) : kq P n ops Q J o K σ w :=
  kq_valE (R := fun v' w' => v' = v ∧ w' = w) hw ⟨v, w, hrun, rfl, rfl⟩ (by rintro _ _ ⟨rfl, rfl⟩; exact ⟨hJ, k⟩)
theorem kq_skipE {R : World → Prop} (hw : wantS o ops n σ = true) (h : ∃ w', Runs P (opv (cut n σ)) o w (.ok .skip w') ∧ R w') (k : ∀ w', R w' → J w' ∧ K (updO σ o.dst undef) w') : kq P n ops Q J o K σ w := by
  obtain ⟨w', hrun, hr⟩ := h
  refine ⟨?_⟩
  unfold oneK
  rw [if_pos (by rw [yielded_eq]; exact hw)]
  left
  left
  unfold Oper.wp
  rw [Fr_eval, hrun.out, Oper.upon_skip, Fr_put]
  exact ⟨(k w' hr).1, _, rfl, (k w' hr).2⟩
theorem kq_callW {f : FuncId} {args : Array Value} {R : Value → World → Prop} (hw : wantS o ops n σ = true) (hrun : Runs P (opv (cut n σ)) o w (.ok (.enter f args) w)) (hc : CallsW P f args w R)
    (k : ∀ v w1, R v w1 → J w1 ∧ K (updO σ o.dst v) w1) : kq P n ops Q J o K σ w := by
  refine ⟨?_⟩
  unfold oneK
  rw [if_pos (by rw [yielded_eq]; exact hw)]
  left
  left
  unfold Oper.wp
  rw [Fr_eval, hrun.out, Oper.upon_enter]
  refine Calls.mono hc.out fun e w1 ⟨v, he, hR⟩ => ?_
  subst he
  exact ⟨(k v w1 hR).1, updO σ o.dst v, by rw [Fr_put], (k v w1 hR).2⟩
theorem kq_off (hw : wantS o ops n σ = false) (hJ : J w) (k : K (updO σ o.dst undef) w) : kq P n ops Q J o K σ w := by
  refine ⟨?_⟩
  unfold oneK
  rw [if_neg (by rw [yielded_eq]; intro h; have h2 : wantS o ops n σ = true := h; rw [hw] at h2; cases h2), Fr_put]
  exact ⟨hJ, _, rfl, k⟩
end
theorem WP_drawU {P : Program} {n : Nat} {Q : Post} {σ : Nat → Value} {w : World} {id : Nat} {l : List Oper} (J : World → Prop) (t : OU) (hm : P.follows .mixedOrders = true) (hz : Nat.beq t.cnt l.length = true) (hB : permU .any l.toArray t = true)
    (hJ : ∀ w', Below w.heap.size w w' → J w')
    (h : ∀ w', Below w.heap.size w w' → wu P n (calm Q) J l t σ w') : WP P n (.region id l.toArray true) Q σ w := by
  refine ⟨sw_mono NoPanic.imp (sw_any hm (sAny_of_J (J := J) (nj := fun d => !([] : List Nat).contains d) _ _ _ _ ?_))⟩
  simp only [permU, Bool.and_eq_true] at hB
  have hq : lift n (calm Q) = NoPanic (lift n Q) := by
    funext e a w
    cases e <;> simp [lift, calm, NoPanic]
  have hb : Below w.heap.size w { w with drawn := w.drawn + 1 } := drew_grown w
  have hs := wu_sound t _ σ _ hB.2 (h _ hb)
  rw [hq] at hs
  have key := treeU_any (P := P) (Q := NoPanic (lift n Q)) (md := .any) (J := J) (l := l) hB.1 (fun c a w h => by simp [NoPanic] at h) t (Array.replicate l.toArray.size false) (Fr n σ) { w with drawn := w.drawn + 1 } hB.2 (fun j oj _ hl => by rw [getD_replicate_false] at hl; cases hl) (hJ _ hb) hs
  have e : t.cnt = l.toArray.size := by simpa using Nat.eq_of_beq_eq_true hz
  rw [e] at key
  exact key
end Go.Gx
