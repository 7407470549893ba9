/-
  A region that draws its order, the operations taken in an order of one's own: a head (what leaves known memory alone), then what is the same in every world, then a tail, one operation behind the other.
-/
import Derived.Test.YteplelijhkmbkaaDoorGxDraw
namespace Go.Gx.Pm
open Go Go.RowKit Go.Gx
set_option linter.unusedVariables false
set_option linter.unusedSimpArgs false

section
variable {P : Program} {ops : Array Oper} {Q : Exit → Act → World → Prop} {md : Region.Mode} {tl : Nat → Bool}

/-- The tail has begun. -/
def Began (tl : Nat → Bool) (listed : Array Bool) : Prop := ∃ d, tl d = true ∧ listed.getD d false = true
def GG (tl : Nat → Bool) (listed : Array Bool) (w w1 : World) : Prop := (Began tl listed → w1 = w) ∧ (¬ Began tl listed → Gw w w1)
theorem Began.set {listed : Array Bool} {i : Nat} (hi : tl i = false) : Began tl (listed.setIfInBounds i true) ↔ Began tl listed := by
  constructor
  · rintro ⟨d, hd, h⟩; exact ⟨d, hd, by rwa [getD_set_ne false (show i ≠ d from fun e => by rw [e, hd] at hi; cases hi)] at h⟩
  · rintro ⟨d, hd, h⟩; exact ⟨d, hd, by rwa [getD_set_ne false (show i ≠ d from fun e => by rw [e, hd] at hi; cases hi)]⟩
theorem Began.now {listed : Array Bool} {i : Nat} (hi : tl i = true) (hl : listed.getD i true = false) : Began tl (listed.setIfInBounds i true) := by
  refine ⟨i, hi, ?_⟩
  rcases Nat.lt_or_ge i listed.size with h' | h'
  · simp [h']
  · simp [Array.getElem?_eq_none h'] at hl
theorem GG.set {listed : Array Bool} {i : Nat} {w w1 : World} (hi : tl i = false) (h : GG tl listed w w1) : GG tl (listed.setIfInBounds i true) w w1 := by
  unfold GG; rw [Began.set hi]; exact h

def wpAnyG (P : Program) (md : Region.Mode) (ops : Array Oper) (Q : Exit → Act → World → Prop) (tl : Nat → Bool) : Nat → Array Bool → Act → World → Prop
  | 0, listed, a, w => Region.ready md ops listed = [] ∧ ∀ w1, GG tl listed w w1 → Q .normal a w1
  | fuel + 1, listed, a, w =>
    (Region.ready md ops listed = [] → ∀ w1, GG tl listed w w1 → Q .normal a w1) ∧
    ∀ i ∈ Region.ready md ops listed, ∀ w1, GG tl listed w w1 → sOp P ops Q i (fun a' w' => (tl i = false → ¬ Began tl listed → Gw w1 w') ∧ wpAnyG P md ops Q tl fuel (listed.setIfInBounds i true) a' w') a w1

theorem GG.refl {listed : Array Bool} {w : World} : GG tl listed w w := ⟨fun _ => rfl, fun _ => Gw.refl w⟩
theorem GG.trans {listed : Array Bool} {w w1 w2 : World} (h : GG tl listed w w1) (h2 : GG tl listed w1 w2) : GG tl listed w w2 := ⟨fun hb => (h2.1 hb).trans (h.1 hb), fun hb => (h.2 hb).trans (h2.2 hb)⟩
theorem wpAnyG_mono {fuel : Nat} {listed : Array Bool} {a : Act} {w w1 : World} (h : wpAnyG P md ops Q tl fuel listed a w) (hg : GG tl listed w w1) : wpAnyG P md ops Q tl fuel listed a w1 := by
  cases fuel with
  | zero => exact ⟨h.1, fun w2 h2 => h.2 w2 (hg.trans h2)⟩
  | succ k => exact ⟨fun h0 w2 h2 => h.1 h0 w2 (hg.trans h2), fun i hi w2 h2 => h.2 i hi w2 (hg.trans h2)⟩

theorem wpAny_of_G : ∀ (fuel : Nat) (listed : Array Bool) (a : Act) (w : World), wpAnyG P md ops Q tl fuel listed a w → sAny P md ops Q fuel listed a w
  | 0, _, _, w, h => ⟨h.1, h.2 w GG.refl⟩
  | fuel + 1, listed, _, w, h => ⟨fun h0 => h.1 h0 w GG.refl, fun i hi => sOp_mono (fun a' w' h' => wpAny_of_G fuel _ a' w' h'.2) (h.2 i hi w GG.refl)⟩

/-- What yields in whatever world is taken first. -/
theorem firstP {i : Nat} {oi : Oper} {v : Value} (hi : ops[i]? = some oi) (hsel : ∀ (j : Nat) (o : Oper) cs b, ops[j]? = some o → o.op ≠ .select cs b)
    (hQ : ∀ c a w, Q (.panic c) (a.put oi.dst v) w → Q (.panic c) a w) (hin : tl i = false) :
    ∀ (fuel : Nat) (listed : Array Bool) (a : Act) (w : World),
      (∀ j oj, ops[j]? = some oj → j ≠ i → listed.getD j true = false → (∀ e ∈ oj.after, Region.binds md e = true → e.on ≠ i) → oi.apart ops oj = true) →
      i ∈ Region.ready md ops listed → Yields P ops oi v a →
      wpAnyG P md ops Q tl fuel (listed.setIfInBounds i true) (a.put oi.dst v) w → wpAnyG P md ops Q tl (fuel + 1) listed a w := by
  intro fuel
  induction fuel with
  | zero =>
    intro listed a w _ hr hy H
    refine ⟨fun h => (by rw [h] at hr; cases hr), fun j hj w1 hg => ?_⟩
    by_cases hji : j = i
    · subst hji; exact sOp_inl (hy.wpOp hi ⟨fun _ _ => Gw.refl _, wpAnyG_mono H (hg.set hin)⟩)
    · have := ready_mono hj hji
      rw [H.1] at this
      cases this
  | succ fuel ih =>
    intro listed a w hfree hr hy H
    refine ⟨fun h => (by rw [h] at hr; cases hr), fun j hj w1 hg => ?_⟩
    by_cases hji : j = i
    · subst hji; exact sOp_inl (hy.wpOp hi ⟨fun _ _ => Gw.refl _, wpAnyG_mono H (hg.set hin)⟩)
    · have h1 := H.2 j (ready_mono hj hji) w1 (hg.set hin)
      obtain ⟨hjun, oj, hoj, hall⟩ := mem_ready.1 hj
      have hiun := (mem_ready.1 hr).1
      have hnot : ∀ e ∈ oj.after, Region.binds md e = true → e.on ≠ i := fun e he hb heq => by
        have h1 := hall e he hb
        rw [heq, getD_two hiun] at h1
        cases h1
      have h2 := sOp_put hoj (hfree j oj hoj hji hjun hnot) (fun cs b => hsel i oi cs b hi) (fun cs b => hsel j oj cs b hoj) hQ hy h1
      refine sOp_mono (fun a' w' h3 => ⟨fun hjn hb => h3.2.1 hjn (fun h => hb ((Began.set hin).1 h)), ih (listed.setIfInBounds j true) a' w' (unlisted_hyp hfree hjun) (ready_mono hr (Ne.symm hji)) h3.1 ?_⟩) h2
      rw [Array.setIfInBounds_comm _ _ hji]
      exact h3.2.2

/-- What is quiet, and what the whole tail waits for, is taken first. -/
theorem firstQ {i : Nat} {oi : Oper} {v : Value} (hi : ops[i]? = some oi) (hsel : ∀ (j : Nat) (o : Oper) cs b, ops[j]? = some o → o.op ≠ .select cs b)
    (hQ : ∀ c a w, Q (.panic c) (a.put oi.dst v) w → Q (.panic c) a w) (hin : tl i = false) (hd : ∀ d, tl d = true → d < ops.size → reachG md ops i ops.size d = true) :
    ∀ (fuel : Nat) (listed : Array Bool) (a : Act) (w : World),
      (∀ j oj, ops[j]? = some oj → j ≠ i → listed.getD j true = false → (∀ e ∈ oj.after, Region.binds md e = true → e.on ≠ i) → oi.apart ops oj = true) →
      ClosedG md ops listed → ¬ Began tl listed → i ∈ Region.ready md ops listed → YieldsG P ops w oi v a →
      wpAnyG P md ops Q tl fuel (listed.setIfInBounds i true) (a.put oi.dst v) w → wpAnyG P md ops Q tl (fuel + 1) listed a w := by
  intro fuel
  induction fuel with
  | zero =>
    intro listed a w _ hc hb hr hy H
    refine ⟨fun h => (by rw [h] at hr; cases hr), fun j hj w1 hg => ?_⟩
    by_cases hji : j = i
    · subst hji
      exact YieldsG.sp1 hi hy (hg.2 hb) fun w' hw' => ⟨fun _ _ => hw', wpAnyG_mono H ⟨fun h => absurd ((Began.set hin).1 h) hb, fun _ => (hg.2 hb).trans hw'⟩⟩
    · have := ready_mono hj hji
      rw [H.1] at this
      cases this
  | succ fuel ih =>
    intro listed a w hfree hc hb hr hy H
    refine ⟨fun h => (by rw [h] at hr; cases hr), fun j hj w1 hg => ?_⟩
    by_cases hji : j = i
    · subst hji
      exact YieldsG.sp1 hi hy (hg.2 hb) fun w' hw' => ⟨fun _ _ => hw', wpAnyG_mono H ⟨fun h => absurd ((Began.set hin).1 h) hb, fun _ => (hg.2 hb).trans hw'⟩⟩
    · have h1 := H.2 j (ready_mono hj hji) w1 (hg.set hin)
      obtain ⟨hjun, oj, hoj, hall⟩ := mem_ready.1 hj
      have hiun := (mem_ready.1 hr).1
      have hjn : tl j = false := by
        cases h : tl j
        · rfl
        · exact absurd hj (reachG_not_ready hc (hd j h (Array.getElem?_eq_some_iff.1 hoj).1) hiun)
      have hnot : ∀ e ∈ oj.after, Region.binds md e = true → e.on ≠ i := fun e he hb heq => by
        have h1 := hall e he hb
        rw [heq, getD_two hiun] at h1
        cases h1
      have h2 := sOp_putQ hoj (hfree j oj hoj hji hjun hnot) (fun cs b => hsel i oi cs b hi) (fun cs b => hsel j oj cs b hoj) hQ hy h1
      refine sOp_mono (fun a' w' h3 => ⟨fun hjn hb => h3.2.1 hjn (fun h => hb ((Began.set hin).1 h)), ih (listed.setIfInBounds j true) a' w' (unlisted_hyp hfree hjun) (hc.set hj) (fun h => hb ((Began.set hjn).1 h)) (ready_mono hr (Ne.symm hji)) (h3.1.mono ((hg.2 hb).trans (h3.2.1 hjn (fun h => hb ((Began.set hin).1 h))))) ?_⟩) h2
      rw [Array.setIfInBounds_comm _ _ hji]
      exact h3.2.2


def dflt : Oper := ⟨none, .move (.const undef), 0, "", #[], none⟩
def pk (l : List Oper) : List Nat → List Oper
  | [] => []
  | k :: ks => l.getD k dflt :: pk l ks
theorem pk_get {l : List Oper} {k : Nat} {o : Oper} (h : l.toArray[k]? = some o) : l.getD k dflt = o := by
  have : l[k]? = some o := by simpa using h
  simp [List.getD, this]
def seqLB (md : Region.Mode) (ops : Array Oper) : List Nat → Array Bool → Bool
  | [], listed => (Region.ready md ops listed).isEmpty
  | k :: ks, listed => decide (Region.ready md ops listed = [k]) && seqLB md ops ks (listed.setIfInBounds k true)
def pureLB (md : Region.Mode) (ops : Array Oper) (ts : List Nat) : List Nat → Array Bool → Bool
  | [], listed => seqLB md ops ts listed
  | k :: ks, listed => (Region.ready md ops listed).contains k && Region.free md ops listed k && !(ts.contains k) && pureLB md ops ts ks (listed.setIfInBounds k true)
def headLB (md : Region.Mode) (ops : Array Oper) (ps ts : List Nat) : List Nat → Array Bool → Bool
  | [], listed => pureLB md ops ts ps listed
  | k :: ks, listed => (Region.ready md ops listed).contains k && Region.free md ops listed k && !(ts.contains k) && ((ops[k]?).any isPure || ts.all fun d => reachG md ops k ops.size d) && headLB md ops ps ts ks (listed.setIfInBounds k true)
def permB (md : Region.Mode) (ops : Array Oper) (hs ps ts : List Nat) : Bool := Region.noSelect ops && headLB md ops ps ts hs (Array.replicate ops.size false)

theorem seqL {l : List Oper} : ∀ (ks : List Nat) (listed : Array Bool) (a : Act) (w : World), (∀ k ∈ ks, tl k = true) →
    seqLB md l.toArray ks listed = true → (∀ w1, GG tl listed w w1 → sList P l.toArray Q (pk l ks) a w1) → wpAnyG P md l.toArray Q tl ks.length listed a w
  | [], _, _, _, _, hB, h => ⟨by simpa [seqLB] using hB, h⟩
  | k :: ks, listed, a, w, hk, hB, h => by
    simp only [seqLB, Bool.and_eq_true, decide_eq_true_eq] at hB
    refine ⟨fun h1 => (by rw [hB.1] at h1; cases h1), fun i hi w1 hg => ?_⟩
    obtain ⟨hun, o, h0, _⟩ := mem_ready.1 hi
    rw [hB.1] at hi
    have hik : i = k := by simpa using hi
    subst hik
    have hl := h w1 hg
    rw [pk, pk_get h0] at hl
    have ht : tl i = true := hk i (List.mem_cons_self ..)
    have hw : sOp P l.toArray Q i (sList P l.toArray Q (pk l ks)) a w1 := by unfold sOp; simp only [h0]; exact hl
    exact sOp_mono (fun a' w' h' => ⟨fun hlt => (by rw [ht] at hlt; cases hlt), seqL ks _ a' w' (fun k hk' => hk k (List.mem_cons_of_mem _ hk')) hB.2 (fun w2 hg2 => by rw [hg2.1 (Began.now ht hun)]; exact h')⟩) hw

/-- What is the same in every world. -/
def wpPure (P : Program) (ops : Array Oper) (K : Act → Prop) : List Oper → Act → Prop
  | [], a => K a
  | o :: rest, a => if Region.wanted o (yielded ops a.tmps) = true then ∃ v, (∀ w, (execOp a.eval o).run P w = .ok (.value v) w) ∧ wpPure P ops K rest (a.put o.dst v) else wpPure P ops K rest (a.put o.dst undef)

theorem pureL {l : List Oper} {ts : List Nat} (htl : ∀ d, tl d = ts.contains d) (hsel : Region.noSelect l.toArray = true) (hQ : ∀ c a w, ¬ Q (.panic c) a w) :
    ∀ (ks : List Nat) (listed : Array Bool) (a : Act) (w : World), pureLB md l.toArray ts ks listed = true →
    wpPure P l.toArray (fun a' => ∀ w1, Gw w w1 → sList P l.toArray Q (pk l ts) a' w1) (pk l ks) a → ¬ Began tl listed → wpAnyG P md l.toArray Q tl (ks.length + ts.length) listed a w
  | [], listed, a, w, hB, h, hb => by
    simp only [List.length_nil, Nat.zero_add]
    exact seqL ts listed a w (fun k hk => by rw [htl]; simpa using hk) (by simpa [pureLB] using hB) fun w1 hg => h w1 (hg.2 hb)
  | k :: ks, listed, a, w, hB, h, hb => by
    simp only [pureLB, Bool.and_eq_true] at hB
    obtain ⟨⟨⟨hr, hf⟩, hnt⟩, hB'⟩ := hB
    have hr' : k ∈ Region.ready md l.toArray listed := by simpa using hr
    obtain ⟨_, o, h0, _⟩ := mem_ready.1 hr'
    rw [pk, pk_get h0] at h
    have ht : tl k = false := by rw [htl]; simpa using hnt
    have hy : ∃ v, Yields P l.toArray o v a ∧ wpPure P l.toArray (fun a' => ∀ w1, Gw w w1 → sList P l.toArray Q (pk l ts) a' w1) (pk l ks) (a.put o.dst v) := by
      unfold wpPure at h
      by_cases hw : Region.wanted o (yielded l.toArray a.tmps) = true
      · rw [if_pos hw] at h
        obtain ⟨v, h1, h2⟩ := h
        exact ⟨v, .inl ⟨hw, h1⟩, h2⟩
      · rw [if_neg hw] at h
        exact ⟨undef, .inr ⟨by simpa using hw, rfl⟩, h⟩
    obtain ⟨v, hy, hK⟩ := hy
    have hrec := pureL htl hsel hQ ks _ (a.put o.dst v) w hB' hK (fun h => hb ((Began.set ht).1 h))
    have e : (k :: ks).length + ts.length = ks.length + ts.length + 1 := by simp; omega
    rw [e]
    exact firstP h0 (Region.noSelect_spec hsel) (fun c a w h => absurd h (hQ _ _ _)) ht _ listed a w (Region.free_spec h0 hf) hr' hy hrec

theorem headL {l : List Oper} {ps ts : List Nat} (htl : ∀ d, tl d = ts.contains d) (hsel : Region.noSelect l.toArray = true) (hQ : ∀ c a w, ¬ Q (.panic c) a w) :
    ∀ (ks : List Nat) (listed : Array Bool) (a : Act) (w : World), headLB md l.toArray ps ts ks listed = true →
    wpQ P l.toArray w (fun a' => ∀ w1, Gw w w1 → wpPure P l.toArray (fun a' => ∀ w2, Gw w1 w2 → sList P l.toArray Q (pk l ts) a' w2) (pk l ps) a') (pk l ks) a → ClosedG md l.toArray listed → ¬ Began tl listed →
    wpAnyG P md l.toArray Q tl (ks.length + (ps.length + ts.length)) listed a w
  | [], listed, a, w, hB, h, hc, hb => by
    have := pureL (P := P) (Q := Q) (md := md) htl hsel hQ ps listed a w (by simpa [headLB] using hB) (h w (Gw.refl w)) hb
    simpa using this
  | k :: ks, listed, a, w, hB, h, hc, hb => by
    simp only [headLB, Bool.and_eq_true] at hB
    obtain ⟨⟨⟨⟨hr, hf⟩, hnt⟩, hpd⟩, hB'⟩ := hB
    have hr' : k ∈ Region.ready md l.toArray listed := by simpa using hr
    obtain ⟨_, o, h0, _⟩ := mem_ready.1 hr'
    rw [pk, pk_get h0] at h
    have ht : tl k = false := by rw [htl]; simpa using hnt
    obtain ⟨v, hy, hK⟩ := yieldsG_of (i := k) h
    have hrec := headL htl hsel hQ ks _ (a.put o.dst v) w hB' hK (hc.set hr') (fun h => hb ((Began.set ht).1 h))
    have e : (k :: ks).length + (ps.length + ts.length) = ks.length + (ps.length + ts.length) + 1 := by simp; omega
    rw [e]
    by_cases hp : isPure o = true
    · exact firstP h0 (Region.noSelect_spec hsel) (fun c a w h => absurd h (hQ _ _ _)) ht _ listed a w (Region.free_spec h0 hf) hr' (pure_yields hp hy) hrec
    · have hd : ∀ d, tl d = true → d < l.toArray.size → reachG md l.toArray k l.toArray.size d = true := fun d h1 h2 => by
        rw [h0] at hpd
        simp only [Option.any_some, hp, Bool.false_or] at hpd
        rw [htl] at h1
        exact List.all_eq_true.1 hpd d (by simpa using h1)
      exact firstQ h0 (Region.noSelect_spec hsel) (fun c a w h => absurd h (hQ _ _ _)) ht hd _ listed a w (Region.free_spec h0 hf) hc hb hr' hy hrec

theorem region_perm {id : Nat} {a : Act} {w : World} {l : List Oper} (hs ps ts : List Nat) (hm : P.follows .mixedOrders = true) (hz : Nat.beq (hs.length + (ps.length + ts.length)) l.length = true) (hB : permB .any l.toArray hs ps ts = true)
    (h : ∀ w0, Gw w w0 → wpQ P l.toArray w0 (fun a' => ∀ w1, Gw w0 w1 → wpPure P l.toArray (fun a' => ∀ w2, Gw w1 w2 → sList P l.toArray (NoPanic Q) (pk l ts) a' w2) (pk l ps) a') (pk l hs) a) : sw P (.region id l.toArray true) Q a w := by
  simp only [permB, Bool.and_eq_true] at hB
  obtain ⟨hsel, hB⟩ := hB
  have key := fun w0 (hw0 : Gw w w0) => headL (P := P) (Q := NoPanic Q) (md := .any) (tl := fun d => ts.contains d) (fun d => rfl) hsel (fun c a w h => by simp [NoPanic] at h) hs (Array.replicate l.toArray.size false) a w0 hB (h w0 hw0)
    (fun j oj _ hl => by rw [getD_replicate_false] at hl; cases hl) (fun ⟨d, _, hd⟩ => by rw [getD_replicate_false] at hd; cases hd)
  have e : hs.length + (ps.length + ts.length) = l.toArray.size := by simpa using Nat.eq_of_beq_eq_true hz
  refine sw_mono NoPanic.imp (sw_any hm (wpAny_of_G (tl := fun d => ts.contains d) _ _ _ _ ?_))
  have k2 := key _ (drew_grown w)
  rw [e] at k2
  exact k2
end

/-- What is the same in every world, walked. -/
structure qp (P : Program) (n : Nat) (ops : Array Oper) (K : (Nat → Value) → Prop) (l : List Oper) (σ : Nat → Value) : Prop where mk :: (out : wpPure P ops (fun a => ∃ σ', a = Fr n σ' ∧ K σ') l (Fr n σ))
section
variable {P : Program} {n : Nat} {ops : Array Oper} {K : (Nat → Value) → Prop} {rest : List Oper} {σ : Nat → Value} {o : Oper} {v : Value}
theorem qp_nil (h : K σ) : qp P n ops K [] σ := ⟨⟨σ, rfl, h⟩⟩
theorem qp_val (hw : wantS o ops n σ = true) (hrun : ∀ w, Runs P (opv (cut n σ)) o w (.ok (.value v) w)) (k : qp P n ops K rest (updO σ o.dst v)) : qp P n ops K (o :: rest) σ := by
  refine ⟨?_⟩
  unfold wpPure
  rw [if_pos (by rw [yielded_eq]; exact hw)]
  exact ⟨v, fun w => by rw [Fr_eval]; exact (hrun w).out, by rw [Fr_put]; exact k.out⟩
theorem qp_off (hw : wantS o ops n σ = false) (k : qp P n ops K rest (updO σ o.dst undef)) : qp P n ops K (o :: rest) σ := by
  refine ⟨?_⟩
  unfold wpPure
  rw [if_neg (by rw [yielded_eq]; exact fun h => by rw [show Region.wanted o (yS ops n σ) = wantS o ops n σ from rfl, hw] at h; cases h), Fr_put]
  exact k.out
end
theorem WP_drawPerm {P : Program} {n : Nat} {Q : Post} {σ : Nat → Value} {w : World} {id : Nat} {l : List Oper} (hs ps ts : List Nat) (hm : P.follows .mixedOrders = true) (hz : Nat.beq (hs.length + (ps.length + ts.length)) l.length = true) (hB : permB .any l.toArray hs ps ts = true)
    (h : ∀ w0, Below w.heap.size w w0 → ql P n l.toArray w0 (fun σ' => ∀ w1, Below w0.heap.size w0 w1 → qp P n l.toArray (fun σ'' => ∀ w2, Below w1.heap.size w1 w2 → wl P n l.toArray (calm Q) (pk l ts) σ'' w2) (pk l ps) σ') (pk l hs) σ) : WP P n (.region id l.toArray true) Q σ w := by
  refine ⟨region_perm hs ps ts hm hz hB ?_⟩
  have hq : lift n (calm Q) = NoPanic (lift n Q) := by
    funext e a w
    cases e <;> simp [lift, calm, NoPanic]
  have monoP : ∀ (w1 : World) (l' : List Oper) (a : Act), wpPure P l.toArray (fun a => ∃ σ', a = Fr n σ' ∧ ∀ w2, Below w1.heap.size w1 w2 → wl P n l.toArray (calm Q) (pk l ts) σ' w2) l' a →
      wpPure P l.toArray (fun a' => ∀ w2, Gw w1 w2 → sList P l.toArray (NoPanic (lift n Q)) (pk l ts) a' w2) l' a := by
    intro w1 l'
    induction l' with
    | nil => rintro a ⟨σ', rfl, hh⟩ w2 hw2; rw [← hq]; exact (hh w2 hw2).out
    | cons o r ih =>
      intro a ha
      unfold wpPure at ha ⊢
      split
      · rename_i hw; rw [if_pos hw] at ha; obtain ⟨v, h1, h2⟩ := ha; exact ⟨v, h1, ih _ h2⟩
      · rename_i hw; rw [if_neg hw] at ha; exact ih _ ha
  have mono : ∀ (w0 : World) (l' : List Oper) (a : Act), wpQ P l.toArray w0 (fun a => ∃ σ', a = Fr n σ' ∧ ∀ w1, Below w0.heap.size w0 w1 → qp P n l.toArray (fun σ'' => ∀ w2, Below w1.heap.size w1 w2 → wl P n l.toArray (calm Q) (pk l ts) σ'' w2) (pk l ps) σ') l' a →
      wpQ P l.toArray w0 (fun a' => ∀ w1, Gw w0 w1 → wpPure P l.toArray (fun a' => ∀ w2, Gw w1 w2 → sList P l.toArray (NoPanic (lift n Q)) (pk l ts) a' w2) (pk l ps) a') l' a := by
    intro w0 l'
    induction l' with
    | nil => rintro a ⟨σ', rfl, hh⟩ w1 hw1; exact monoP w1 _ _ (hh w1 hw1).out
    | cons o r ih =>
      intro a ha
      unfold wpQ at ha ⊢
      split
      · rename_i hw; rw [if_pos hw] at ha; obtain ⟨v, h1, h2⟩ := ha; exact ⟨v, h1, ih _ h2⟩
      · rename_i hw; rw [if_neg hw] at ha; exact ih _ ha
  exact fun w0 hw0 => mono w0 _ _ (h w0 hw0).out
end Go.Gx.Pm
