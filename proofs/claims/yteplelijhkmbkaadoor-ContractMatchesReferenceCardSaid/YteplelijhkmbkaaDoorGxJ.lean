/-
  A region that draws its order, with operations that read known objects beside others that write elsewhere: what is known of the objects read is carried past each of the others.
-/
import Derived.Test.YteplelijhkmbkaaDoorGxObs
import Derived.Test.YteplelijhkmbkaaDoorGxPerm
namespace Go.Gx
open Go Go.RowKit Go.Gx
set_option linter.unusedVariables false
set_option linter.unusedSimpArgs false

section
variable {P : Program} {ops : Array Oper} {Q : Exit → Act → World → Prop} {md : Region.Mode} {J : World → Prop} {nj : Nat → Bool}

def sAnyJ (P : Program) (md : Region.Mode) (ops : Array Oper) (Q : Exit → Act → World → Prop) (J : World → Prop) (nj : Nat → Bool) : Nat → Array Bool → Act → World → Prop
  | 0, listed, a, w => Region.ready md ops listed = [] ∧ Q .normal a w
  | fuel + 1, listed, a, w =>
    (Region.ready md ops listed = [] → Q .normal a w) ∧
    ∀ i ∈ Region.ready md ops listed, sOp P ops Q i (fun a' w' => (nj i = true → J w') ∧ sAnyJ P md ops Q J nj fuel (listed.setIfInBounds i true) a' w') a w
theorem sAny_of_J : ∀ (fuel : Nat) (listed : Array Bool) (a : Act) (w : World), sAnyJ P md ops Q J nj fuel listed a w → sAny P md ops Q fuel listed a w
  | 0, _, _, _, h => h
  | fuel + 1, _, _, _, h => ⟨h.1, fun i hi => sOp_mono (fun a' w' h' => sAny_of_J fuel _ a' w' h'.2) (h.2 i hi)⟩
/-- In every world of the class the operation leaves v, and the world as it is. -/
def YieldsJ (P : Program) (ops : Array Oper) (J : World → Prop) (o : Oper) (v : Value) (a : Act) : Prop :=
  (Region.wanted o (yielded ops a.tmps) = true ∧ ∀ w, J w → (execOp a.eval o).run P w = .ok (.value v) w) ∨ (Region.wanted o (yielded ops a.tmps) = false ∧ v = undef)
theorem YieldsJ.of_same {o : Oper} {v : Value} {a a' : Act} (hy : YieldsJ P ops J o v a) (he : execOp a'.eval o = execOp a.eval o)
    (hw : Region.wanted o (yielded ops a'.tmps) = Region.wanted o (yielded ops a.tmps)) : YieldsJ P ops J o v a' := by
  unfold YieldsJ at *
  rw [he, hw]
  exact hy
theorem YieldsJ.sOp {i : Nat} {o : Oper} {v : Value} {a : Act} {w : World} (hi : ops[i]? = some o) (hy : YieldsJ P ops J o v a) {K : Act → World → Prop} (hJ : J w) (h : K (a.put o.dst v) w) : Gx.sOp P ops Q i K a w := by
  unfold Gx.sOp Oper.sp
  simp only [hi]
  rcases hy with ⟨hw, hv⟩ | ⟨hw, rfl⟩
  · simp only [hw, if_true, Oper.wp, hv w hJ, Oper.upon]; exact .inl (.inl h)
  · simp only [hw, Bool.false_eq_true, if_false]; exact h
theorem sOp_putJ {j : Nat} {oi oj : Oper} {v : Value} (hj : ops[j]? = some oj) (hap : oi.apart ops oj = true)
    (hsi : ∀ cs b, oi.op ≠ .select cs b) (hsj : ∀ cs b, oj.op ≠ .select cs b)
    (hQ : ∀ c a w, Q (.panic c) (a.put oi.dst v) w → Q (.panic c) a w) {K : Act → World → Prop} {a : Act} {w : World}
    (hy : YieldsJ P ops J oi v a) (h : sOp P ops Q j K (a.put oi.dst v) w) :
    sOp P ops Q j (fun a' w' => YieldsJ P ops J oi v a' ∧ K (a'.put oi.dst v) w') a w := by
  obtain ⟨h1, h2, h3⟩ := Oper.apart_spec hap
  have keep : ∀ (a : Act), YieldsJ P ops J oi v a → ∀ u, YieldsJ P ops J oi v (a.put oj.dst u) := fun a hy u =>
    hy.of_same (execOp_put oi hsi a oj.dst u h3) (wanted_put oi a oj.dst u h3)
  have keepD : ∀ d, YieldsJ P ops J oi v { a with defers := d :: a.defers } := fun d => hy.of_same rfl rfl
  unfold sOp at *
  simp only [hj] at *
  rw [wanted_put oj a oi.dst v h1] at h
  split
  · rename_i hw
    simp only [hw, if_true] at h
    unfold Oper.sp at *
    rcases h with (h | ⟨hasks, hlets⟩) | h
    case inl.inr => exact .inl (.inr ⟨by unfold Oper.asks at *; rw [execOp_put oj hsj a oi.dst v h1] at hasks; exact hasks, hlets⟩)
    case inr =>
      obtain ⟨l, f, tmps, as, b, w', e1, e2⟩ := h
      rw [execOp_put oj hsj a oi.dst v h1] at e1
      exact .inr ⟨l, f, tmps, as, b, w', e1, e2.mono fun e w'' ⟨u, he, hk⟩ => ⟨u, he, keep a hy u, by rw [← Act.put_comm a v u h2]; exact hk⟩⟩
    refine .inl (.inl ?_)
    unfold Oper.wp at *
    rw [execOp_put oj hsj a oi.dst v h1] at h
    generalize (execOp a.eval oj).run P w = r at *
    cases r with
    | ok n w' =>
      cases n <;> simp only [Oper.upon] at h ⊢
      case value u => exact ⟨keep a hy u, by rw [← Act.put_comm a v u h2]; exact h⟩
      case skip => exact ⟨keep a hy _, by rw [← Act.put_comm a v undef h2]; exact h⟩
      case defer d =>
        refine ⟨keep _ (keepD d) _, ?_⟩
        rw [← Act.put_comm _ v undef h2, ← Act.put_defers]
        exact h
      case enter f args =>
        refine Calls.mono h fun e w'' he => ?_
        cases e with
        | returned u => exact ⟨keep a hy u, by rw [← Act.put_comm a v u h2]; exact he⟩
        | panicked c => exact hQ _ _ _ he
        | outgrown => exact he
      case row row args => exact Rows.mono h fun u w'' he => ⟨keep a hy u, by rw [← Act.put_comm a v u h2]; exact he⟩
    | halt x w' =>
      cases x <;> simp only [Oper.upon] at h ⊢
      case panic u => exact hQ _ _ _ h
  · rename_i hw
    simp only [hw] at h
    exact ⟨keep a hy _, by rw [← Act.put_comm a v undef h2]; exact h⟩


theorem firstJ {i : Nat} {oi : Oper} {v : Value} (hi : ops[i]? = some oi) (hsel : ∀ (j : Nat) (o : Oper) cs b, ops[j]? = some o → o.op ≠ .select cs b)
    (hQ : ∀ c a w, Q (.panic c) (a.put oi.dst v) w → Q (.panic c) a w) (hd : ∀ d, nj d = false → d < ops.size → reachG md ops i ops.size d = true) :
    ∀ (fuel : Nat) (listed : Array Bool) (a : Act) (w : World),
      (∀ j oj, ops[j]? = some oj → j ≠ i → listed.getD j true = false → (∀ e ∈ oj.after, Region.binds md e = true → e.on ≠ i) → oi.apart ops oj = true) →
      ClosedG md ops listed → i ∈ Region.ready md ops listed → YieldsJ P ops J oi v a → J w →
      sAnyJ P md ops Q J nj fuel (listed.setIfInBounds i true) (a.put oi.dst v) w → sAnyJ P md ops Q J nj (fuel + 1) listed a w := by
  intro fuel
  induction fuel with
  | zero =>
    intro listed a w _ _ hr hy hJ H
    refine ⟨fun h => (by rw [h] at hr; cases hr), fun j hj => ?_⟩
    by_cases hji : j = i
    · subst hji; exact hy.sOp hi hJ ⟨fun _ => hJ, H⟩
    · have := ready_mono hj hji
      rw [H.1] at this
      cases this
  | succ fuel ih =>
    intro listed a w hfree hc hr hy hJ H
    refine ⟨fun h => (by rw [h] at hr; cases hr), fun j hj => ?_⟩
    by_cases hji : j = i
    · subst hji; exact hy.sOp hi hJ ⟨fun _ => hJ, H⟩
    · have h1 := H.2 j (ready_mono hj hji)
      obtain ⟨hjun, oj, hoj, hall⟩ := mem_ready.1 hj
      have hiun := (mem_ready.1 hr).1
      have hjn : nj j = true := by
        cases h : nj j
        · exact absurd hj (reachG_not_ready hc (hd j h (Array.getElem?_eq_some_iff.1 hoj).1) hiun)
        · rfl
      have hnot : ∀ e ∈ oj.after, Region.binds md e = true → e.on ≠ i := fun e he hb heq => by
        have h1 := hall e he hb
        rw [heq, getD_two hiun] at h1
        cases h1
      have h2 := sOp_putJ hoj (hfree j oj hoj hji hjun hnot) (fun cs b => hsel i oi cs b hi) (fun cs b => hsel j oj cs b hoj) hQ hy h1
      refine sOp_mono (fun a' w' h3 => ⟨h3.2.1, ih (listed.setIfInBounds j true) a' w' (unlisted_hyp hfree hjun) (hc.set hj) (ready_mono hr (Ne.symm hji)) h3.1 (h3.2.1 hjn) ?_⟩) h2
      rw [Array.setIfInBounds_comm _ _ hji]
      exact h3.2.2

def sListJ (P : Program) (ops : Array Oper) (Q : Exit → Act → World → Prop) (J : World → Prop) (T : List Oper) : List Oper → Act → World → Prop
  | [], a, w => sList P ops Q T a w
  | o :: rest, a, w => if Region.wanted o (yielded ops a.tmps) = true then Oper.sp P o a w (fun a' w' => J w' ∧ sListJ P ops Q J T rest a' w') Q else J w ∧ sListJ P ops Q J T rest (a.put o.dst undef) w
def headJB (md : Region.Mode) (ops : Array Oper) (ts us : List Nat) : List Nat → Array Bool → Bool
  | [], listed => Pm.seqLB md ops (ts ++ us) listed
  | k :: ks, listed => (Region.ready md ops listed).contains k && Region.free md ops listed k && (us.all fun d => reachG md ops k ops.size d) && headJB md ops ts us ks (listed.setIfInBounds k true)
def permJB (md : Region.Mode) (ops : Array Oper) (hs ts us : List Nat) : Bool := Region.noSelect ops && headJB md ops ts us hs (Array.replicate ops.size false)
def wpJ (P : Program) (ops : Array Oper) (J : World → Prop) (K : Act → Prop) : List Oper → Act → Prop
  | [], a => K a
  | o :: rest, a => if Region.wanted o (yielded ops a.tmps) = true then ∃ v, (∀ w, J w → (execOp a.eval o).run P w = .ok (.value v) w) ∧ wpJ P ops J K rest (a.put o.dst v) else wpJ P ops J K rest (a.put o.dst undef)

theorem seqT {l : List Oper} : ∀ (ks : List Nat) (listed : Array Bool) (a : Act) (w : World), (∀ k ∈ ks, nj k = false) →
    Pm.seqLB md l.toArray ks listed = true → sList P l.toArray Q (Pm.pk l ks) a w → sAnyJ P md l.toArray Q J nj ks.length listed a w
  | [], _, _, _, _, hB, h => ⟨by simpa [Pm.seqLB] using hB, h⟩
  | k :: ks, listed, a, w, hn, hB, h => by
    simp only [Pm.seqLB, Bool.and_eq_true, decide_eq_true_eq] at hB
    refine ⟨fun h1 => (by rw [hB.1] at h1; cases h1), fun i hi => ?_⟩
    obtain ⟨hun, o, h0, _⟩ := mem_ready.1 hi
    rw [hB.1] at hi
    have hik : i = k := by simpa using hi
    subst hik
    rw [Pm.pk, Pm.pk_get h0] at h
    have hw : sOp P l.toArray Q i (sList P l.toArray Q (Pm.pk l ks)) a w := by unfold sOp; simp only [h0]; exact h
    exact sOp_mono (fun a' w' h' => ⟨(fun e => by rw [hn i (List.mem_cons_self ..)] at e; cases e), seqT ks _ a' w' (fun k hk => hn k (List.mem_cons_of_mem _ hk)) hB.2 h'⟩) hw
theorem seqJ {l : List Oper} {us : List Nat} (hn : ∀ k ∈ us, nj k = false) : ∀ (ks : List Nat) (listed : Array Bool) (a : Act) (w : World),
    Pm.seqLB md l.toArray (ks ++ us) listed = true → sListJ P l.toArray Q J (Pm.pk l us) (Pm.pk l ks) a w → sAnyJ P md l.toArray Q J nj (ks.length + us.length) listed a w
  | [], listed, a, w, hB, h => by
    simp only [List.length_nil, Nat.zero_add]
    exact seqT us listed a w hn hB h
  | k :: ks, listed, a, w, hB, h => by
    simp only [List.cons_append, Pm.seqLB, Bool.and_eq_true, decide_eq_true_eq] at hB
    have e : (k :: ks).length + us.length = ks.length + us.length + 1 := by simp; omega
    rw [e]
    refine ⟨fun h1 => (by rw [hB.1] at h1; cases h1), fun i hi => ?_⟩
    obtain ⟨hun, o, h0, _⟩ := mem_ready.1 hi
    rw [hB.1] at hi
    have hik : i = k := by simpa using hi
    subst hik
    rw [Pm.pk, Pm.pk_get h0] at h
    have hw : sOp P l.toArray Q i (fun a' w' => J w' ∧ sListJ P l.toArray Q J (Pm.pk l us) (Pm.pk l ks) a' w') a w := by unfold sOp; simp only [h0]; exact h
    exact sOp_mono (fun a' w' h' => ⟨fun _ => h'.1, seqJ hn ks _ a' w' hB.2 h'.2⟩) hw
theorem headJ {l : List Oper} {ts us : List Nat} (hsel : Region.noSelect l.toArray = true) (hQ : ∀ c a w, ¬ Q (.panic c) a w) :
    ∀ (ks : List Nat) (listed : Array Bool) (a : Act) (w : World), headJB md l.toArray ts us ks listed = true → ClosedG md l.toArray listed → J w →
    wpJ P l.toArray J (fun a' => sListJ P l.toArray Q J (Pm.pk l us) (Pm.pk l ts) a' w) (Pm.pk l ks) a → sAnyJ P md l.toArray Q J (fun d => !us.contains d) (ks.length + (ts.length + us.length)) listed a w
  | [], listed, a, w, hB, hc, hJ, h => by
    simp only [List.length_nil, Nat.zero_add]
    exact seqJ (fun k hk => by simpa using hk) ts listed a w (by simpa [headJB] using hB) h
  | k :: ks, listed, a, w, hB, hc, hJ, h => by
    simp only [headJB, Bool.and_eq_true] at hB
    obtain ⟨⟨⟨hr, hf⟩, hd⟩, hB'⟩ := hB
    have hr' : k ∈ Region.ready md l.toArray listed := by simpa using hr
    obtain ⟨_, o, h0, _⟩ := mem_ready.1 hr'
    rw [Pm.pk, Pm.pk_get h0] at h
    have hy : ∃ v, YieldsJ P l.toArray J o v a ∧ wpJ P l.toArray J (fun a' => sListJ P l.toArray Q J (Pm.pk l us) (Pm.pk l ts) a' w) (Pm.pk l ks) (a.put o.dst v) := by
      unfold wpJ at h
      by_cases hw : Region.wanted o (yielded l.toArray a.tmps) = true
      · rw [if_pos hw] at h
        obtain ⟨v, h1, h2⟩ := h
        exact ⟨v, .inl ⟨hw, h1⟩, h2⟩
      · rw [if_neg hw] at h
        exact ⟨undef, .inr ⟨by simpa using hw, rfl⟩, h⟩
    obtain ⟨v, hy, hK⟩ := hy
    have hrec := headJ hsel hQ ks _ (a.put o.dst v) w hB' (hc.set hr') hJ hK
    have e : (k :: ks).length + (ts.length + us.length) = ks.length + (ts.length + us.length) + 1 := by simp; omega
    rw [e]
    exact firstJ h0 (Region.noSelect_spec hsel) (fun c a w h => absurd h (hQ _ _ _)) (fun d hdu hds => List.all_eq_true.1 hd d (by simpa using hdu)) _ listed a w (Region.free_spec h0 hf) hc hr' hy hJ hrec
end

/-- What is the same in every world of the class, walked. -/
structure jq (P : Program) (n : Nat) (ops : Array Oper) (J : World → Prop) (K : (Nat → Value) → Prop) (l : List Oper) (σ : Nat → Value) : Prop where mk :: (out : wpJ P ops J (fun a => ∃ σ', a = Fr n σ' ∧ K σ') l (Fr n σ))
/-- The rest, one behind the other. -/
structure wj (P : Program) (n : Nat) (ops : Array Oper) (Q : Post) (J : World → Prop) (TL l : List Oper) (σ : Nat → Value) (w : World) : Prop where mk :: (out : sListJ P ops (lift n Q) J TL l (Fr n σ) w)
section
variable {P : Program} {n : Nat} {ops : Array Oper} {Q : Post} {J : World → Prop} {K : (Nat → Value) → Prop} {TL rest : List Oper} {σ : Nat → Value} {w w' : World} {o : Oper} {v : Value}
theorem jq_nil (h : K σ) : jq P n ops J K [] σ := ⟨⟨σ, rfl, h⟩⟩
theorem jq_val (hw : wantS o ops n σ = true) (hrun : ∀ w, J w → Runs P (opv (cut n σ)) o w (.ok (.value v) w)) (k : jq P n ops J K rest (updO σ o.dst v)) : jq P n ops J K (o :: rest) σ := by
  refine ⟨?_⟩
  unfold wpJ
  rw [if_pos (by rw [yielded_eq]; exact hw)]
  exact ⟨v, fun w hJ => by rw [Fr_eval]; exact (hrun w hJ).out, by rw [Fr_put]; exact k.out⟩
theorem jq_off (hw : wantS o ops n σ = false) (k : jq P n ops J K rest (updO σ o.dst undef)) : jq P n ops J K (o :: rest) σ := by
  refine ⟨?_⟩
  unfold wpJ
  rw [if_neg (by rw [yielded_eq]; exact fun h => by rw [show Region.wanted o (yS ops n σ) = wantS o ops n σ from rfl, hw] at h; cases h), Fr_put]
  exact k.out
theorem jq_move {d : Nat} {x : Operand} {ty : TypeId} {pos : String} {af : Array Edge} {g : Option (Nat × Bool)} (hw : wantS ⟨some d, .move x, ty, pos, af, g⟩ ops n σ = true)
    (k : jq P n ops J K rest (mv σ n d x)) : jq P n ops J K (⟨some d, .move x, ty, pos, af, g⟩ :: rest) σ := jq_val (v := opv (cut n σ) x) hw (fun _ _ => ⟨rfl⟩) k
theorem wj_nil (h : wl P n ops Q TL σ w) : wj P n ops Q J TL [] σ w := ⟨h.out⟩
theorem wj_valE {R : Value → World → Prop} (hw : wantS o ops n σ = true) (h : ∃ v w', Runs P (opv (cut n σ)) o w (.ok (.value v) w') ∧ R v w') (k : ∀ v w', R v w' → J w' ∧ wj P n ops Q J TL rest (updO σ o.dst v) w') : wj P n ops Q J TL (o :: rest) σ w := by
  obtain ⟨v, w', hrun, hr⟩ := h
  refine ⟨?_⟩
  unfold sListJ
  rw [if_pos (by rw [yielded_eq]; exact hw)]
  left
  left
  unfold Oper.wp
  rw [Fr_eval, hrun.out, Oper.upon_value, Fr_put]
  exact ⟨(k v w' hr).1, (k v w' hr).2.out⟩
theorem wj_val (hw : wantS o ops n σ = true) (hrun : Runs P (opv (cut n σ)) o w (.ok (.value v) w)) (hJ : J w) (k : wj P n ops Q J TL rest (updO σ o.dst v) w) : wj P n ops Q J TL (o :: rest) σ w :=
  wj_valE (R := fun u w' => u = v ∧ w' = w) hw ⟨v, w, hrun, rfl, rfl⟩ (by rintro _ _ ⟨rfl, rfl⟩; exact ⟨hJ, k⟩)
theorem wj_skipE {R : World → Prop} (hw : wantS o ops n σ = true) (h : ∃ w', Runs P (opv (cut n σ)) o w (.ok .skip w') ∧ R w') (k : ∀ w', R w' → J w' ∧ wj P n ops Q J TL rest (updO σ o.dst undef) w') : wj P n ops Q J TL (o :: rest) σ w := by
  obtain ⟨w', hrun, hr⟩ := h
  refine ⟨?_⟩
  unfold sListJ
  rw [if_pos (by rw [yielded_eq]; exact hw)]
  left
  left
  unfold Oper.wp
  rw [Fr_eval, hrun.out, Oper.upon_skip, Fr_put]
  exact ⟨(k w' hr).1, (k w' hr).2.out⟩
theorem wj_off (hw : wantS o ops n σ = false) (hJ : J w) (k : wj P n ops Q J TL rest (updO σ o.dst undef) w) : wj P n ops Q J TL (o :: rest) σ w := by
  refine ⟨?_⟩
  unfold sListJ
  rw [if_neg (by rw [yielded_eq]; exact fun h => by rw [show Region.wanted o (yS ops n σ) = wantS o ops n σ from rfl, hw] at h; cases h), Fr_put]
  exact ⟨hJ, k.out⟩
theorem wj_callR {f : FuncId} {args : Array Value} {R : Value → World → Prop} (hw : wantS o ops n σ = true) (hrun : Runs P (opv (cut n σ)) o w (.ok (.enter f args) w)) (hc : CallsR P f args w R)
    (k : ∀ v w1, Below w.heap.size w w1 → R v w1 → J w1 ∧ wj P n ops Q J TL rest (updO σ o.dst v) w1) : wj P n ops Q J TL (o :: rest) σ w := by
  refine ⟨?_⟩
  unfold sListJ
  rw [if_pos (by rw [yielded_eq]; exact hw)]
  left
  left
  unfold Oper.wp
  rw [Fr_eval, hrun.out, Oper.upon_enter]
  refine hc.out.mono fun e w1 ⟨v, he, hb, hR⟩ => ?_
  subst he
  show J w1 ∧ sListJ P ops (lift n Q) J TL rest ((Fr n σ).put o.dst v) w1
  rw [Fr_put]
  exact ⟨(k v w1 hb hR).1, (k v w1 hb hR).2.out⟩
theorem wj_callW {f : FuncId} {args : Array Value} {R : Value → World → Prop} (hw : wantS o ops n σ = true) (hrun : Runs P (opv (cut n σ)) o w (.ok (.enter f args) w)) (hc : CallsW P f args w R)
    (k : ∀ v w1, R v w1 → J w1 ∧ wj P n ops Q J TL rest (updO σ o.dst v) w1) : wj P n ops Q J TL (o :: rest) σ w := by
  refine ⟨?_⟩
  unfold sListJ
  rw [if_pos (by rw [yielded_eq]; exact hw)]
  left
  left
  unfold Oper.wp
  rw [Fr_eval, hrun.out, Oper.upon_enter]
  refine hc.out.mono fun e w1 ⟨v, he, hR⟩ => ?_
  subst he
  show J w1 ∧ sListJ P ops (lift n Q) J TL rest ((Fr n σ).put o.dst v) w1
  rw [Fr_put]
  exact ⟨(k v w1 hR).1, (k v w1 hR).2.out⟩
end
theorem WP_drawJ {P : Program} {n : Nat} {Q : Post} {σ : Nat → Value} {w : World} {id : Nat} {l : List Oper} (J : World → Prop) (hs ts us : List Nat) (hm : P.follows .mixedOrders = true) (hz : Nat.beq (hs.length + (ts.length + us.length)) l.length = true) (hB : permJB .any l.toArray hs ts us = true)
    (hJ : ∀ w', Below w.heap.size w w' → J w')
    (h : ∀ w', Below w.heap.size w w' → jq P n l.toArray J (fun σ' => wj P n l.toArray (calm Q) J (Pm.pk l us) (Pm.pk l ts) σ' w') (Pm.pk l hs) σ) : WP P n (.region id l.toArray true) Q σ w := by
  refine ⟨sw_mono NoPanic.imp (sw_any hm (sAny_of_J (J := J) (nj := fun d => !us.contains d) _ _ _ _ ?_))⟩
  simp only [permJB, Bool.and_eq_true] at hB
  have hq : lift n (calm Q) = NoPanic (lift n Q) := by
    funext e a w
    cases e <;> simp [lift, calm, NoPanic]
  have hb : Below w.heap.size w { w with drawn := w.drawn + 1 } := drew_grown w
  have key := headJ (P := P) (Q := NoPanic (lift n Q)) (md := .any) (J := J) (l := l) (ts := ts) (us := us) hB.1 (fun c a w h => by simp [NoPanic] at h) hs (Array.replicate l.toArray.size false) (Fr n σ) { w with drawn := w.drawn + 1 } hB.2 (fun j oj _ hl => by rw [getD_replicate_false] at hl; cases hl) (hJ _ hb)
  have e : hs.length + (ts.length + us.length) = l.toArray.size := by simpa using Nat.eq_of_beq_eq_true hz
  rw [e] at key
  refine key ?_
  have mono : ∀ (l' : List Oper) (a : Act), wpJ P l.toArray J (fun a => ∃ σ', a = Fr n σ' ∧ wj P n l.toArray (calm Q) J (Pm.pk l us) (Pm.pk l ts) σ' { w with drawn := w.drawn + 1 }) l' a →
      wpJ P l.toArray J (fun a' => sListJ P l.toArray (NoPanic (lift n Q)) J (Pm.pk l us) (Pm.pk l ts) a' { w with drawn := w.drawn + 1 }) l' a := by
    intro l'
    induction l' with
    | nil => rintro a ⟨σ', rfl, hh⟩; rw [← hq]; exact hh.out
    | cons o r ih =>
      intro a ha
      unfold wpJ at ha ⊢
      split
      · rename_i hw; rw [if_pos hw] at ha; obtain ⟨v, h1, h2⟩ := ha; exact ⟨v, h1, ih _ h2⟩
      · rename_i hw; rw [if_neg hw] at ha; exact ih _ ha
  exact mono _ _ (h _ hb).out

section
variable {P : Program} {n : Nat} {ops : Array Oper} {J : World → Prop} {K : (Nat → Value) → Prop} {TL rest : List Oper} {σ : Nat → Value} {d : Option Tmp} {ty : TypeId} {pos : String} {af : Array Edge} {g : Option (Nat × Bool)}
theorem gj_move {x : Operand} (h : jq P n ops J K (⟨d, .move x, ty, pos, af, g⟩ :: rest) σ) : jq P n ops J K (⟨d, .move x, ty, pos, af, g⟩ :: rest) σ := h
theorem gj_assign {x : Operand} (h : jq P n ops J K (⟨d, .assign x, ty, pos, af, g⟩ :: rest) σ) : jq P n ops J K (⟨d, .assign x, ty, pos, af, g⟩ :: rest) σ := h
theorem gj_pick {x y z : Operand} (h : jq P n ops J K (⟨d, .pick x y z, ty, pos, af, g⟩ :: rest) σ) : jq P n ops J K (⟨d, .pick x y z, ty, pos, af, g⟩ :: rest) σ := h
theorem gj_alloc {T : TypeId} (h : jq P n ops J K (⟨d, .alloc T, ty, pos, af, g⟩ :: rest) σ) : jq P n ops J K (⟨d, .alloc T, ty, pos, af, g⟩ :: rest) σ := h
theorem gj_box {T : TypeId} {x : Operand} (h : jq P n ops J K (⟨d, .box T x, ty, pos, af, g⟩ :: rest) σ) : jq P n ops J K (⟨d, .box T x, ty, pos, af, g⟩ :: rest) σ := h
theorem gj_lit {T : TypeId} {m : Nat} {ps : Array (Nat × Operand)} (h : jq P n ops J K (⟨d, .buildSlice T m ps, ty, pos, af, g⟩ :: rest) σ) : jq P n ops J K (⟨d, .buildSlice T m ps, ty, pos, af, g⟩ :: rest) σ := h
theorem gj_build {T : TypeId} {ps : Array (Nat × Operand)} (h : jq P n ops J K (⟨d, .build T ps, ty, pos, af, g⟩ :: rest) σ) : jq P n ops J K (⟨d, .build T ps, ty, pos, af, g⟩ :: rest) σ := h
theorem gj_load {T : TypeId} {x : Operand} (h : jq P n ops J K (⟨d, .load T x, ty, pos, af, g⟩ :: rest) σ) : jq P n ops J K (⟨d, .load T x, ty, pos, af, g⟩ :: rest) σ := h
theorem gj_store {T : TypeId} {x y : Operand} (h : jq P n ops J K (⟨d, .store T x y, ty, pos, af, g⟩ :: rest) σ) : jq P n ops J K (⟨d, .store T x y, ty, pos, af, g⟩ :: rest) σ := h
theorem gj_un {b : UnOp} {T : TypeId} {x : Operand} (h : jq P n ops J K (⟨d, .unOp b T x, ty, pos, af, g⟩ :: rest) σ) : jq P n ops J K (⟨d, .unOp b T x, ty, pos, af, g⟩ :: rest) σ := h
theorem gj_convert {T T' : TypeId} {x : Operand} (h : jq P n ops J K (⟨d, .convert T T' x, ty, pos, af, g⟩ :: rest) σ) : jq P n ops J K (⟨d, .convert T T' x, ty, pos, af, g⟩ :: rest) σ := h
theorem gj_makeFunc {f : Fn} {a b : Array Operand} (h : jq P n ops J K (⟨d, .makeFunc f a b, ty, pos, af, g⟩ :: rest) σ) : jq P n ops J K (⟨d, .makeFunc f a b, ty, pos, af, g⟩ :: rest) σ := h
theorem gj_makeSlice {T : TypeId} {x y : Operand} (h : jq P n ops J K (⟨d, .makeSlice T x y, ty, pos, af, g⟩ :: rest) σ) : jq P n ops J K (⟨d, .makeSlice T x y, ty, pos, af, g⟩ :: rest) σ := h
theorem gj_slice {T : TypeId} {x : Operand} {a b c : Option Operand} (h : jq P n ops J K (⟨d, .slice T x a b c, ty, pos, af, g⟩ :: rest) σ) : jq P n ops J K (⟨d, .slice T x a b c, ty, pos, af, g⟩ :: rest) σ := h
theorem gj_fieldAddr {T : TypeId} {x : Operand} {j : Nat} (h : jq P n ops J K (⟨d, .fieldAddr T x j, ty, pos, af, g⟩ :: rest) σ) : jq P n ops J K (⟨d, .fieldAddr T x j, ty, pos, af, g⟩ :: rest) σ := h
theorem gj_field {T : TypeId} {x : Operand} {j : Nat} (h : jq P n ops J K (⟨d, .field T x j, ty, pos, af, g⟩ :: rest) σ) : jq P n ops J K (⟨d, .field T x j, ty, pos, af, g⟩ :: rest) σ := h
theorem gj_indexAddr {T : TypeId} {x y : Operand} (h : jq P n ops J K (⟨d, .indexAddr T x y, ty, pos, af, g⟩ :: rest) σ) : jq P n ops J K (⟨d, .indexAddr T x y, ty, pos, af, g⟩ :: rest) σ := h
theorem gj_index {T : TypeId} {x y : Operand} (h : jq P n ops J K (⟨d, .index T x y, ty, pos, af, g⟩ :: rest) σ) : jq P n ops J K (⟨d, .index T x y, ty, pos, af, g⟩ :: rest) σ := h
theorem gj_extract {x : Operand} {j : Nat} (h : jq P n ops J K (⟨d, .extract x j, ty, pos, af, g⟩ :: rest) σ) : jq P n ops J K (⟨d, .extract x j, ty, pos, af, g⟩ :: rest) σ := h
theorem gj_callV {x : Operand} {as : Array Operand} {ts : Array TypeId} (h : jq P n ops J K (⟨d, .call { callee := .value x, args := as, argTypes := ts }, ty, pos, af, g⟩ :: rest) σ) : jq P n ops J K (⟨d, .call { callee := .value x, args := as, argTypes := ts }, ty, pos, af, g⟩ :: rest) σ := h
theorem gj_b_add {T T' : TypeId} {x y : Operand} (h : jq P n ops J K (⟨d, .binOp .add T x y T', ty, pos, af, g⟩ :: rest) σ) : jq P n ops J K (⟨d, .binOp .add T x y T', ty, pos, af, g⟩ :: rest) σ := h
theorem gj_b_sub {T T' : TypeId} {x y : Operand} (h : jq P n ops J K (⟨d, .binOp .sub T x y T', ty, pos, af, g⟩ :: rest) σ) : jq P n ops J K (⟨d, .binOp .sub T x y T', ty, pos, af, g⟩ :: rest) σ := h
theorem gj_b_mul {T T' : TypeId} {x y : Operand} (h : jq P n ops J K (⟨d, .binOp .mul T x y T', ty, pos, af, g⟩ :: rest) σ) : jq P n ops J K (⟨d, .binOp .mul T x y T', ty, pos, af, g⟩ :: rest) σ := h
theorem gj_b_quo {T T' : TypeId} {x y : Operand} (h : jq P n ops J K (⟨d, .binOp .quo T x y T', ty, pos, af, g⟩ :: rest) σ) : jq P n ops J K (⟨d, .binOp .quo T x y T', ty, pos, af, g⟩ :: rest) σ := h
theorem gj_b_rem {T T' : TypeId} {x y : Operand} (h : jq P n ops J K (⟨d, .binOp .rem T x y T', ty, pos, af, g⟩ :: rest) σ) : jq P n ops J K (⟨d, .binOp .rem T x y T', ty, pos, af, g⟩ :: rest) σ := h
theorem gj_b_eql {T T' : TypeId} {x y : Operand} (h : jq P n ops J K (⟨d, .binOp .eql T x y T', ty, pos, af, g⟩ :: rest) σ) : jq P n ops J K (⟨d, .binOp .eql T x y T', ty, pos, af, g⟩ :: rest) σ := h
theorem gj_b_neq {T T' : TypeId} {x y : Operand} (h : jq P n ops J K (⟨d, .binOp .neq T x y T', ty, pos, af, g⟩ :: rest) σ) : jq P n ops J K (⟨d, .binOp .neq T x y T', ty, pos, af, g⟩ :: rest) σ := h
theorem gj_b_lss {T T' : TypeId} {x y : Operand} (h : jq P n ops J K (⟨d, .binOp .lss T x y T', ty, pos, af, g⟩ :: rest) σ) : jq P n ops J K (⟨d, .binOp .lss T x y T', ty, pos, af, g⟩ :: rest) σ := h
theorem gj_b_leq {T T' : TypeId} {x y : Operand} (h : jq P n ops J K (⟨d, .binOp .leq T x y T', ty, pos, af, g⟩ :: rest) σ) : jq P n ops J K (⟨d, .binOp .leq T x y T', ty, pos, af, g⟩ :: rest) σ := h
theorem gj_b_gtr {T T' : TypeId} {x y : Operand} (h : jq P n ops J K (⟨d, .binOp .gtr T x y T', ty, pos, af, g⟩ :: rest) σ) : jq P n ops J K (⟨d, .binOp .gtr T x y T', ty, pos, af, g⟩ :: rest) σ := h
theorem gj_b_geq {T T' : TypeId} {x y : Operand} (h : jq P n ops J K (⟨d, .binOp .geq T x y T', ty, pos, af, g⟩ :: rest) σ) : jq P n ops J K (⟨d, .binOp .geq T x y T', ty, pos, af, g⟩ :: rest) σ := h
theorem gj_b_and {T T' : TypeId} {x y : Operand} (h : jq P n ops J K (⟨d, .binOp .and T x y T', ty, pos, af, g⟩ :: rest) σ) : jq P n ops J K (⟨d, .binOp .and T x y T', ty, pos, af, g⟩ :: rest) σ := h
theorem gj_b_or {T T' : TypeId} {x y : Operand} (h : jq P n ops J K (⟨d, .binOp .or T x y T', ty, pos, af, g⟩ :: rest) σ) : jq P n ops J K (⟨d, .binOp .or T x y T', ty, pos, af, g⟩ :: rest) σ := h
theorem gj_b_xor {T T' : TypeId} {x y : Operand} (h : jq P n ops J K (⟨d, .binOp .xor T x y T', ty, pos, af, g⟩ :: rest) σ) : jq P n ops J K (⟨d, .binOp .xor T x y T', ty, pos, af, g⟩ :: rest) σ := h
theorem gj_b_andNot {T T' : TypeId} {x y : Operand} (h : jq P n ops J K (⟨d, .binOp .andNot T x y T', ty, pos, af, g⟩ :: rest) σ) : jq P n ops J K (⟨d, .binOp .andNot T x y T', ty, pos, af, g⟩ :: rest) σ := h
theorem gj_b_shl {T T' : TypeId} {x y : Operand} (h : jq P n ops J K (⟨d, .binOp .shl T x y T', ty, pos, af, g⟩ :: rest) σ) : jq P n ops J K (⟨d, .binOp .shl T x y T', ty, pos, af, g⟩ :: rest) σ := h
theorem gj_b_shr {T T' : TypeId} {x y : Operand} (h : jq P n ops J K (⟨d, .binOp .shr T x y T', ty, pos, af, g⟩ :: rest) σ) : jq P n ops J K (⟨d, .binOp .shr T x y T', ty, pos, af, g⟩ :: rest) σ := h
theorem gj_c_len {as : Array Operand} {ts : Array TypeId} (h : jq P n ops J K (⟨d, .call { callee := .builtin .len, args := as, argTypes := ts }, ty, pos, af, g⟩ :: rest) σ) : jq P n ops J K (⟨d, .call { callee := .builtin .len, args := as, argTypes := ts }, ty, pos, af, g⟩ :: rest) σ := h
theorem gj_c_append {as : Array Operand} {ts : Array TypeId} (h : jq P n ops J K (⟨d, .call { callee := .builtin .append, args := as, argTypes := ts }, ty, pos, af, g⟩ :: rest) σ) : jq P n ops J K (⟨d, .call { callee := .builtin .append, args := as, argTypes := ts }, ty, pos, af, g⟩ :: rest) σ := h
theorem gj_c_max {as : Array Operand} {ts : Array TypeId} (h : jq P n ops J K (⟨d, .call { callee := .builtin .max, args := as, argTypes := ts }, ty, pos, af, g⟩ :: rest) σ) : jq P n ops J K (⟨d, .call { callee := .builtin .max, args := as, argTypes := ts }, ty, pos, af, g⟩ :: rest) σ := h
theorem gj_c_min {as : Array Operand} {ts : Array TypeId} (h : jq P n ops J K (⟨d, .call { callee := .builtin .min, args := as, argTypes := ts }, ty, pos, af, g⟩ :: rest) σ) : jq P n ops J K (⟨d, .call { callee := .builtin .min, args := as, argTypes := ts }, ty, pos, af, g⟩ :: rest) σ := h
theorem gj_c_copy {as : Array Operand} {ts : Array TypeId} (h : jq P n ops J K (⟨d, .call { callee := .builtin .copy, args := as, argTypes := ts }, ty, pos, af, g⟩ :: rest) σ) : jq P n ops J K (⟨d, .call { callee := .builtin .copy, args := as, argTypes := ts }, ty, pos, af, g⟩ :: rest) σ := h
theorem gj_c_delete {as : Array Operand} {ts : Array TypeId} (h : jq P n ops J K (⟨d, .call { callee := .builtin .delete, args := as, argTypes := ts }, ty, pos, af, g⟩ :: rest) σ) : jq P n ops J K (⟨d, .call { callee := .builtin .delete, args := as, argTypes := ts }, ty, pos, af, g⟩ :: rest) σ := h
theorem gj_c_cap {as : Array Operand} {ts : Array TypeId} (h : jq P n ops J K (⟨d, .call { callee := .builtin .cap, args := as, argTypes := ts }, ty, pos, af, g⟩ :: rest) σ) : jq P n ops J K (⟨d, .call { callee := .builtin .cap, args := as, argTypes := ts }, ty, pos, af, g⟩ :: rest) σ := h
theorem gj_nilCheck {x : Operand} (h : jq P n ops J K (⟨d, .nilCheck x, ty, pos, af, g⟩ :: rest) σ) : jq P n ops J K (⟨d, .nilCheck x, ty, pos, af, g⟩ :: rest) σ := h
theorem gj_guard {o : Op} {z : Nat × Bool} (h : jq P n ops J K (⟨d, o, ty, pos, af, some z⟩ :: rest) σ) : jq P n ops J K (⟨d, o, ty, pos, af, some z⟩ :: rest) σ := h
variable {Q : Post} {w : World}
theorem gw_move {x : Operand} (h : wj P n ops Q J TL (⟨d, .move x, ty, pos, af, g⟩ :: rest) σ w) : wj P n ops Q J TL (⟨d, .move x, ty, pos, af, g⟩ :: rest) σ w := h
theorem gw_assign {x : Operand} (h : wj P n ops Q J TL (⟨d, .assign x, ty, pos, af, g⟩ :: rest) σ w) : wj P n ops Q J TL (⟨d, .assign x, ty, pos, af, g⟩ :: rest) σ w := h
theorem gw_pick {x y z : Operand} (h : wj P n ops Q J TL (⟨d, .pick x y z, ty, pos, af, g⟩ :: rest) σ w) : wj P n ops Q J TL (⟨d, .pick x y z, ty, pos, af, g⟩ :: rest) σ w := h
theorem gw_alloc {T : TypeId} (h : wj P n ops Q J TL (⟨d, .alloc T, ty, pos, af, g⟩ :: rest) σ w) : wj P n ops Q J TL (⟨d, .alloc T, ty, pos, af, g⟩ :: rest) σ w := h
theorem gw_box {T : TypeId} {x : Operand} (h : wj P n ops Q J TL (⟨d, .box T x, ty, pos, af, g⟩ :: rest) σ w) : wj P n ops Q J TL (⟨d, .box T x, ty, pos, af, g⟩ :: rest) σ w := h
theorem gw_lit {T : TypeId} {m : Nat} {ps : Array (Nat × Operand)} (h : wj P n ops Q J TL (⟨d, .buildSlice T m ps, ty, pos, af, g⟩ :: rest) σ w) : wj P n ops Q J TL (⟨d, .buildSlice T m ps, ty, pos, af, g⟩ :: rest) σ w := h
theorem gw_build {T : TypeId} {ps : Array (Nat × Operand)} (h : wj P n ops Q J TL (⟨d, .build T ps, ty, pos, af, g⟩ :: rest) σ w) : wj P n ops Q J TL (⟨d, .build T ps, ty, pos, af, g⟩ :: rest) σ w := h
theorem gw_load {T : TypeId} {x : Operand} (h : wj P n ops Q J TL (⟨d, .load T x, ty, pos, af, g⟩ :: rest) σ w) : wj P n ops Q J TL (⟨d, .load T x, ty, pos, af, g⟩ :: rest) σ w := h
theorem gw_store {T : TypeId} {x y : Operand} (h : wj P n ops Q J TL (⟨d, .store T x y, ty, pos, af, g⟩ :: rest) σ w) : wj P n ops Q J TL (⟨d, .store T x y, ty, pos, af, g⟩ :: rest) σ w := h
theorem gw_un {b : UnOp} {T : TypeId} {x : Operand} (h : wj P n ops Q J TL (⟨d, .unOp b T x, ty, pos, af, g⟩ :: rest) σ w) : wj P n ops Q J TL (⟨d, .unOp b T x, ty, pos, af, g⟩ :: rest) σ w := h
theorem gw_convert {T T' : TypeId} {x : Operand} (h : wj P n ops Q J TL (⟨d, .convert T T' x, ty, pos, af, g⟩ :: rest) σ w) : wj P n ops Q J TL (⟨d, .convert T T' x, ty, pos, af, g⟩ :: rest) σ w := h
theorem gw_makeFunc {f : Fn} {a b : Array Operand} (h : wj P n ops Q J TL (⟨d, .makeFunc f a b, ty, pos, af, g⟩ :: rest) σ w) : wj P n ops Q J TL (⟨d, .makeFunc f a b, ty, pos, af, g⟩ :: rest) σ w := h
theorem gw_makeSlice {T : TypeId} {x y : Operand} (h : wj P n ops Q J TL (⟨d, .makeSlice T x y, ty, pos, af, g⟩ :: rest) σ w) : wj P n ops Q J TL (⟨d, .makeSlice T x y, ty, pos, af, g⟩ :: rest) σ w := h
theorem gw_slice {T : TypeId} {x : Operand} {a b c : Option Operand} (h : wj P n ops Q J TL (⟨d, .slice T x a b c, ty, pos, af, g⟩ :: rest) σ w) : wj P n ops Q J TL (⟨d, .slice T x a b c, ty, pos, af, g⟩ :: rest) σ w := h
theorem gw_fieldAddr {T : TypeId} {x : Operand} {j : Nat} (h : wj P n ops Q J TL (⟨d, .fieldAddr T x j, ty, pos, af, g⟩ :: rest) σ w) : wj P n ops Q J TL (⟨d, .fieldAddr T x j, ty, pos, af, g⟩ :: rest) σ w := h
theorem gw_field {T : TypeId} {x : Operand} {j : Nat} (h : wj P n ops Q J TL (⟨d, .field T x j, ty, pos, af, g⟩ :: rest) σ w) : wj P n ops Q J TL (⟨d, .field T x j, ty, pos, af, g⟩ :: rest) σ w := h
theorem gw_indexAddr {T : TypeId} {x y : Operand} (h : wj P n ops Q J TL (⟨d, .indexAddr T x y, ty, pos, af, g⟩ :: rest) σ w) : wj P n ops Q J TL (⟨d, .indexAddr T x y, ty, pos, af, g⟩ :: rest) σ w := h
theorem gw_index {T : TypeId} {x y : Operand} (h : wj P n ops Q J TL (⟨d, .index T x y, ty, pos, af, g⟩ :: rest) σ w) : wj P n ops Q J TL (⟨d, .index T x y, ty, pos, af, g⟩ :: rest) σ w := h
theorem gw_extract {x : Operand} {j : Nat} (h : wj P n ops Q J TL (⟨d, .extract x j, ty, pos, af, g⟩ :: rest) σ w) : wj P n ops Q J TL (⟨d, .extract x j, ty, pos, af, g⟩ :: rest) σ w := h
theorem gw_callV {x : Operand} {as : Array Operand} {ts : Array TypeId} (h : wj P n ops Q J TL (⟨d, .call { callee := .value x, args := as, argTypes := ts }, ty, pos, af, g⟩ :: rest) σ w) : wj P n ops Q J TL (⟨d, .call { callee := .value x, args := as, argTypes := ts }, ty, pos, af, g⟩ :: rest) σ w := h
theorem gw_b_add {T T' : TypeId} {x y : Operand} (h : wj P n ops Q J TL (⟨d, .binOp .add T x y T', ty, pos, af, g⟩ :: rest) σ w) : wj P n ops Q J TL (⟨d, .binOp .add T x y T', ty, pos, af, g⟩ :: rest) σ w := h
theorem gw_b_sub {T T' : TypeId} {x y : Operand} (h : wj P n ops Q J TL (⟨d, .binOp .sub T x y T', ty, pos, af, g⟩ :: rest) σ w) : wj P n ops Q J TL (⟨d, .binOp .sub T x y T', ty, pos, af, g⟩ :: rest) σ w := h
theorem gw_b_mul {T T' : TypeId} {x y : Operand} (h : wj P n ops Q J TL (⟨d, .binOp .mul T x y T', ty, pos, af, g⟩ :: rest) σ w) : wj P n ops Q J TL (⟨d, .binOp .mul T x y T', ty, pos, af, g⟩ :: rest) σ w := h
theorem gw_b_quo {T T' : TypeId} {x y : Operand} (h : wj P n ops Q J TL (⟨d, .binOp .quo T x y T', ty, pos, af, g⟩ :: rest) σ w) : wj P n ops Q J TL (⟨d, .binOp .quo T x y T', ty, pos, af, g⟩ :: rest) σ w := h
theorem gw_b_rem {T T' : TypeId} {x y : Operand} (h : wj P n ops Q J TL (⟨d, .binOp .rem T x y T', ty, pos, af, g⟩ :: rest) σ w) : wj P n ops Q J TL (⟨d, .binOp .rem T x y T', ty, pos, af, g⟩ :: rest) σ w := h
theorem gw_b_eql {T T' : TypeId} {x y : Operand} (h : wj P n ops Q J TL (⟨d, .binOp .eql T x y T', ty, pos, af, g⟩ :: rest) σ w) : wj P n ops Q J TL (⟨d, .binOp .eql T x y T', ty, pos, af, g⟩ :: rest) σ w := h
theorem gw_b_neq {T T' : TypeId} {x y : Operand} (h : wj P n ops Q J TL (⟨d, .binOp .neq T x y T', ty, pos, af, g⟩ :: rest) σ w) : wj P n ops Q J TL (⟨d, .binOp .neq T x y T', ty, pos, af, g⟩ :: rest) σ w := h
theorem gw_b_lss {T T' : TypeId} {x y : Operand} (h : wj P n ops Q J TL (⟨d, .binOp .lss T x y T', ty, pos, af, g⟩ :: rest) σ w) : wj P n ops Q J TL (⟨d, .binOp .lss T x y T', ty, pos, af, g⟩ :: rest) σ w := h
theorem gw_b_leq {T T' : TypeId} {x y : Operand} (h : wj P n ops Q J TL (⟨d, .binOp .leq T x y T', ty, pos, af, g⟩ :: rest) σ w) : wj P n ops Q J TL (⟨d, .binOp .leq T x y T', ty, pos, af, g⟩ :: rest) σ w := h
theorem gw_b_gtr {T T' : TypeId} {x y : Operand} (h : wj P n ops Q J TL (⟨d, .binOp .gtr T x y T', ty, pos, af, g⟩ :: rest) σ w) : wj P n ops Q J TL (⟨d, .binOp .gtr T x y T', ty, pos, af, g⟩ :: rest) σ w := h
theorem gw_b_geq {T T' : TypeId} {x y : Operand} (h : wj P n ops Q J TL (⟨d, .binOp .geq T x y T', ty, pos, af, g⟩ :: rest) σ w) : wj P n ops Q J TL (⟨d, .binOp .geq T x y T', ty, pos, af, g⟩ :: rest) σ w := h
theorem gw_b_and {T T' : TypeId} {x y : Operand} (h : wj P n ops Q J TL (⟨d, .binOp .and T x y T', ty, pos, af, g⟩ :: rest) σ w) : wj P n ops Q J TL (⟨d, .binOp .and T x y T', ty, pos, af, g⟩ :: rest) σ w := h
theorem gw_b_or {T T' : TypeId} {x y : Operand} (h : wj P n ops Q J TL (⟨d, .binOp .or T x y T', ty, pos, af, g⟩ :: rest) σ w) : wj P n ops Q J TL (⟨d, .binOp .or T x y T', ty, pos, af, g⟩ :: rest) σ w := h
theorem gw_b_xor {T T' : TypeId} {x y : Operand} (h : wj P n ops Q J TL (⟨d, .binOp .xor T x y T', ty, pos, af, g⟩ :: rest) σ w) : wj P n ops Q J TL (⟨d, .binOp .xor T x y T', ty, pos, af, g⟩ :: rest) σ w := h
theorem gw_b_andNot {T T' : TypeId} {x y : Operand} (h : wj P n ops Q J TL (⟨d, .binOp .andNot T x y T', ty, pos, af, g⟩ :: rest) σ w) : wj P n ops Q J TL (⟨d, .binOp .andNot T x y T', ty, pos, af, g⟩ :: rest) σ w := h
theorem gw_b_shl {T T' : TypeId} {x y : Operand} (h : wj P n ops Q J TL (⟨d, .binOp .shl T x y T', ty, pos, af, g⟩ :: rest) σ w) : wj P n ops Q J TL (⟨d, .binOp .shl T x y T', ty, pos, af, g⟩ :: rest) σ w := h
theorem gw_b_shr {T T' : TypeId} {x y : Operand} (h : wj P n ops Q J TL (⟨d, .binOp .shr T x y T', ty, pos, af, g⟩ :: rest) σ w) : wj P n ops Q J TL (⟨d, .binOp .shr T x y T', ty, pos, af, g⟩ :: rest) σ w := h
theorem gw_c_len {as : Array Operand} {ts : Array TypeId} (h : wj P n ops Q J TL (⟨d, .call { callee := .builtin .len, args := as, argTypes := ts }, ty, pos, af, g⟩ :: rest) σ w) : wj P n ops Q J TL (⟨d, .call { callee := .builtin .len, args := as, argTypes := ts }, ty, pos, af, g⟩ :: rest) σ w := h
theorem gw_c_append {as : Array Operand} {ts : Array TypeId} (h : wj P n ops Q J TL (⟨d, .call { callee := .builtin .append, args := as, argTypes := ts }, ty, pos, af, g⟩ :: rest) σ w) : wj P n ops Q J TL (⟨d, .call { callee := .builtin .append, args := as, argTypes := ts }, ty, pos, af, g⟩ :: rest) σ w := h
theorem gw_c_max {as : Array Operand} {ts : Array TypeId} (h : wj P n ops Q J TL (⟨d, .call { callee := .builtin .max, args := as, argTypes := ts }, ty, pos, af, g⟩ :: rest) σ w) : wj P n ops Q J TL (⟨d, .call { callee := .builtin .max, args := as, argTypes := ts }, ty, pos, af, g⟩ :: rest) σ w := h
theorem gw_c_min {as : Array Operand} {ts : Array TypeId} (h : wj P n ops Q J TL (⟨d, .call { callee := .builtin .min, args := as, argTypes := ts }, ty, pos, af, g⟩ :: rest) σ w) : wj P n ops Q J TL (⟨d, .call { callee := .builtin .min, args := as, argTypes := ts }, ty, pos, af, g⟩ :: rest) σ w := h
theorem gw_c_copy {as : Array Operand} {ts : Array TypeId} (h : wj P n ops Q J TL (⟨d, .call { callee := .builtin .copy, args := as, argTypes := ts }, ty, pos, af, g⟩ :: rest) σ w) : wj P n ops Q J TL (⟨d, .call { callee := .builtin .copy, args := as, argTypes := ts }, ty, pos, af, g⟩ :: rest) σ w := h
theorem gw_c_delete {as : Array Operand} {ts : Array TypeId} (h : wj P n ops Q J TL (⟨d, .call { callee := .builtin .delete, args := as, argTypes := ts }, ty, pos, af, g⟩ :: rest) σ w) : wj P n ops Q J TL (⟨d, .call { callee := .builtin .delete, args := as, argTypes := ts }, ty, pos, af, g⟩ :: rest) σ w := h
theorem gw_c_cap {as : Array Operand} {ts : Array TypeId} (h : wj P n ops Q J TL (⟨d, .call { callee := .builtin .cap, args := as, argTypes := ts }, ty, pos, af, g⟩ :: rest) σ w) : wj P n ops Q J TL (⟨d, .call { callee := .builtin .cap, args := as, argTypes := ts }, ty, pos, af, g⟩ :: rest) σ w := h
theorem gw_nilCheck {x : Operand} (h : wj P n ops Q J TL (⟨d, .nilCheck x, ty, pos, af, g⟩ :: rest) σ w) : wj P n ops Q J TL (⟨d, .nilCheck x, ty, pos, af, g⟩ :: rest) σ w := h
theorem gw_guard {o : Op} {z : Nat × Bool} (h : wj P n ops Q J TL (⟨d, o, ty, pos, af, some z⟩ :: rest) σ w) : wj P n ops Q J TL (⟨d, o, ty, pos, af, some z⟩ :: rest) σ w := h
end
end Go.Gx
