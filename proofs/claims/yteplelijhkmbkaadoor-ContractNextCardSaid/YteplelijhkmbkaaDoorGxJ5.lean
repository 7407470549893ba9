/-
  A region that draws its order: loads and values; then writes (and what grows the world) in the orders of a tree; then plain operations in any order.
-/
import Derived.Test.YteplelijhkmbkaaDoorGxJ3
import Derived.Test.YteplelijhkmbkaaDoorGxJ4
namespace Go.Gx
open Go Go.RowKit Go.Gx
set_option linter.unusedVariables false
set_option linter.unusedSimpArgs false

/-- The orders that are left. -/
inductive OT
  | fin
  | one (k : Nat) (t : OT)
  | two (x : Nat) (tx : OT) (y : Nat) (ty : OT)
def OT.cnt : OT → Nat
  | .fin => 0
  | .one _ t => t.cnt + 1
  | .two _ tx _ _ => tx.cnt + 1
section
variable {P : Program} {ops : Array Oper} {Q : Exit → Act → World → Prop} {md : Region.Mode} {J : World → Prop}
def treeB (md : Region.Mode) (ops : Array Oper) (es : List Nat) : OT → Array Bool → Bool
  | .fin, listed => headJB md ops [] [] es listed
  | .one k t, listed => decide (Region.ready md ops listed = [k]) && treeB md ops es t (listed.setIfInBounds k true)
  | .two x tx y ty, listed => decide (Region.ready md ops listed = [x, y]) && Nat.beq tx.cnt ty.cnt && treeB md ops es tx (listed.setIfInBounds x true) && treeB md ops es ty (listed.setIfInBounds y true)
def headTB (md : Region.Mode) (ops : Array Oper) (t : OT) (es : List Nat) : List Nat → Array Bool → Bool
  | [], listed => treeB md ops es t listed
  | k :: ks, listed => (Region.ready md ops listed).contains k && Region.free md ops listed k && headTB md ops t es ks (listed.setIfInBounds k true)
def permTB (md : Region.Mode) (ops : Array Oper) (hs : List Nat) (t : OT) (es : List Nat) : Bool := Region.noSelect ops && headTB md ops t es hs (Array.replicate ops.size false)
def sTree (P : Program) (Q : Exit → Act → World → Prop) (J : World → Prop) (l : List Oper) (es : List Nat) : OT → Act → World → Prop
  | .fin, a, w => wpJ P l.toArray J (fun a' => Q .normal a' w) (Pm.pk l es) a
  | .one k t, a, w => oneK P l.toArray Q J (l.getD k Pm.dflt) (sTree P Q J l es t) a w
  | .two x tx y ty, a, w => oneK P l.toArray Q J (l.getD x Pm.dflt) (sTree P Q J l es tx) a w ∧ oneK P l.toArray Q J (l.getD y Pm.dflt) (sTree P Q J l es ty) a w
theorem tree_any {l : List Oper} {es : List Nat} (hsel : Region.noSelect l.toArray = true) (hQ : ∀ c a w, ¬ Q (.panic c) a w) : ∀ (t : OT) (listed : Array Bool) (a : Act) (w : World),
    treeB md l.toArray es t listed = true → ClosedG md l.toArray listed → J w → sTree P Q J l es t a w → sAnyJ P md l.toArray Q J (fun d => !([] : List Nat).contains d) (t.cnt + es.length) listed a w
  | .fin, listed, a, w, hB, hc, hJ, h => by
    have := headJ (P := P) (Q := Q) (md := md) (J := J) (l := l) (ts := []) (us := []) hsel hQ es listed a w hB hc hJ h
    simpa [OT.cnt] using this
  | .one k t, listed, a, w, hB, hc, hJ, h => by
    simp only [treeB, Bool.and_eq_true, decide_eq_true_eq] at hB
    have e : (OT.one k t).cnt + es.length = t.cnt + es.length + 1 := by simp only [OT.cnt]; omega
    rw [e]
    refine ⟨fun h1 => (by rw [hB.1] at h1; cases h1), fun i hi => ?_⟩
    have hi0 := hi
    obtain ⟨hun, o, h0, _⟩ := mem_ready.1 hi
    rw [hB.1] at hi
    have hik : i = k := by simpa using hi
    subst hik
    have h' : oneK P l.toArray Q J (l.getD i Pm.dflt) (sTree P Q J l es t) a w := h
    rw [Pm.pk_get h0] at h'
    have hw : sOp P l.toArray Q i (fun a' w' => J w' ∧ sTree P Q J l es t a' w') a w := by unfold sOp; simp only [h0]; exact h'
    exact sOp_mono (fun a' w' h' => ⟨fun _ => h'.1, tree_any hsel hQ t _ a' w' hB.2 (hc.set hi0) h'.1 h'.2⟩) hw
  | .two x tx y ty, listed, a, w, hB, hc, hJ, h => by
    simp only [treeB, Bool.and_eq_true, decide_eq_true_eq] at hB
    obtain ⟨⟨⟨hr, hcnt⟩, h1⟩, h2⟩ := hB
    have hce := Nat.eq_of_beq_eq_true hcnt
    have e : (OT.two x tx y ty).cnt + es.length = tx.cnt + es.length + 1 := by simp only [OT.cnt]; omega
    rw [e]
    refine ⟨fun h1 => (by rw [hr] at h1; cases h1), fun i hi => ?_⟩
    have hi0 := hi
    obtain ⟨hun, o, h0, _⟩ := mem_ready.1 hi
    rw [hr] at hi
    have hik : i = x ∨ i = y := by simpa using hi
    rcases hik with hik | hik
    · subst hik
      have h' : oneK P l.toArray Q J (l.getD i Pm.dflt) (sTree P Q J l es tx) a w := h.1
      rw [Pm.pk_get h0] at h'
      have hw : sOp P l.toArray Q i (fun a' w' => J w' ∧ sTree P Q J l es tx a' w') a w := by unfold sOp; simp only [h0]; exact h'
      exact sOp_mono (fun a' w' h' => ⟨fun _ => h'.1, tree_any hsel hQ tx _ a' w' h1 (hc.set hi0) h'.1 h'.2⟩) hw
    · subst hik
      have h' : oneK P l.toArray Q J (l.getD i Pm.dflt) (sTree P Q J l es ty) a w := h.2
      rw [Pm.pk_get h0] at h'
      have hw : sOp P l.toArray Q i (fun a' w' => J w' ∧ sTree P Q J l es ty a' w') a w := by unfold sOp; simp only [h0]; exact h'
      rw [hce]
      exact sOp_mono (fun a' w' h' => ⟨fun _ => h'.1, tree_any hsel hQ ty _ a' w' h2 (hc.set hi0) h'.1 h'.2⟩) hw
theorem headT {l : List Oper} {t : OT} {es : List Nat} (hsel : Region.noSelect l.toArray = true) (hQ : ∀ c a w, ¬ Q (.panic c) a w) :
    ∀ (ks : List Nat) (listed : Array Bool) (a : Act) (w : World), headTB md l.toArray t es ks listed = true → ClosedG md l.toArray listed → J w →
    wpJ P l.toArray J (fun a' => sTree P Q J l es t a' w) (Pm.pk l ks) a → sAnyJ P md l.toArray Q J (fun d => !([] : List Nat).contains d) (ks.length + (t.cnt + es.length)) listed a w
  | [], listed, a, w, hB, hc, hJ, h => by
    simp only [List.length_nil, Nat.zero_add]
    exact tree_any hsel hQ t listed a w hB hc hJ h
  | k :: ks, listed, a, w, hB, hc, hJ, h => by
    simp only [headTB, Bool.and_eq_true] at hB
    obtain ⟨⟨hr, hf⟩, hB'⟩ := hB
    have hr' : k ∈ Region.ready md l.toArray listed := by simpa using hr
    obtain ⟨_, o, h0, _⟩ := mem_ready.1 hr'
    rw [show Pm.pk l (k :: ks) = o :: Pm.pk l ks by rw [Pm.pk, Pm.pk_get h0]] at h
    have hy : ∃ v, YieldsJ P l.toArray J o v a ∧ wpJ P l.toArray J (fun a' => sTree P Q J l es t a' w) (Pm.pk l ks) (a.put o.dst v) := by
      unfold wpJ at h
      by_cases hw : Region.wanted o (yielded l.toArray a.tmps) = true
      · rw [if_pos hw] at h
        obtain ⟨v, h1, h2⟩ := h
        exact ⟨v, .inl ⟨hw, h1⟩, h2⟩
      · rw [if_neg hw] at h
        exact ⟨undef, .inr ⟨by simpa using hw, rfl⟩, h⟩
    obtain ⟨v, hy, hK⟩ := hy
    have hrec := headT hsel hQ ks _ (a.put o.dst v) w hB' (hc.set hr') hJ hK
    have e : (k :: ks).length + (t.cnt + es.length) = ks.length + (t.cnt + es.length) + 1 := by simp; omega
    rw [e]
    exact firstJ h0 (Region.noSelect_spec hsel) (fun c a w h => absurd h (hQ _ _ _)) (fun d hdu hds => by simp at hdu) _ listed a w (Region.free_spec h0 hf) hc hr' hy hJ hrec
end
/-- The tree, over frames. -/
def wt (P : Program) (n : Nat) (Q : Post) (J : World → Prop) (l : List Oper) (es : List Nat) : OT → (Nat → Value) → World → Prop
  | .fin, σ, w => jq P n l.toArray J (fun σ' => Q .normal σ' w) (Pm.pk l es) σ
  | .one k t, σ, w => kq P n l.toArray Q J (l.getD k Pm.dflt) (wt P n Q J l es t) σ w
  | .two x tx y ty, σ, w => kq P n l.toArray Q J (l.getD x Pm.dflt) (wt P n Q J l es tx) σ w ∧ kq P n l.toArray Q J (l.getD y Pm.dflt) (wt P n Q J l es ty) σ w
theorem oneK_mono {P : Program} {ops : Array Oper} {Q : Exit → Act → World → Prop} {J : World → Prop} {o : Oper} {K K' : Act → World → Prop} {a : Act} {w : World} {i : Nat} (hi : ops[i]? = some o) (hK : ∀ a w, K a w → K' a w) (h : oneK P ops Q J o K a w) : oneK P ops Q J o K' a w := by
  have h2 : sOp P ops Q i (fun a w => J w ∧ K a w) a w := by unfold sOp; simp only [hi]; exact h
  have h3 := sOp_mono (fun a' w' (⟨hj, hk⟩ : J w' ∧ K a' w') => (⟨hj, hK _ _ hk⟩ : J w' ∧ K' a' w')) h2
  unfold sOp at h3
  simp only [hi] at h3
  exact h3
theorem wt_sound {P : Program} {n : Nat} {Q : Post} {J : World → Prop} {l : List Oper} {es : List Nat} : ∀ (t : OT) (listed : Array Bool) (σ : Nat → Value) (w : World), treeB .any l.toArray es t listed = true → wt P n Q J l es t σ w → sTree P (lift n Q) J l es t (Fr n σ) w
  | .fin, listed, σ, w, _, h => by
    have mono : ∀ (l' : List Oper) (a : Act), wpJ P l.toArray J (fun a => ∃ σ', a = Fr n σ' ∧ Q .normal σ' w) l' a → wpJ P l.toArray J (fun a' => lift n Q .normal a' w) l' a := by
      intro l'
      induction l' with
      | nil => rintro a ⟨σ', rfl, hh⟩; exact ⟨σ', rfl, hh⟩
      | cons o r ih =>
        intro a ha
        unfold wpJ at ha ⊢
        split
        · rename_i hw; rw [if_pos hw] at ha; obtain ⟨v, h1, h2⟩ := ha; exact ⟨v, h1, ih _ h2⟩
        · rename_i hw; rw [if_neg hw] at ha; exact ih _ ha
    exact mono _ _ (show jq P n l.toArray J (fun σ' => Q .normal σ' w) (Pm.pk l es) σ from h).out
  | .one k t, listed, σ, w, hB, h => by
    simp only [treeB, Bool.and_eq_true, decide_eq_true_eq] at hB
    obtain ⟨_, o, h0, _⟩ := mem_ready.1 (by rw [hB.1]; exact List.mem_singleton.2 rfl : k ∈ Region.ready .any l.toArray listed)
    have h' := (show kq P n l.toArray Q J (l.getD k Pm.dflt) (wt P n Q J l es t) σ w from h).out
    show oneK P l.toArray (lift n Q) J (l.getD k Pm.dflt) (sTree P (lift n Q) J l es t) (Fr n σ) w
    rw [Pm.pk_get h0] at h' ⊢
    exact oneK_mono h0 (fun a w ⟨σ', e, h2⟩ => by rw [e]; exact wt_sound t _ σ' w hB.2 h2) h'
  | .two x tx y ty, listed, σ, w, hB, h => by
    simp only [treeB, Bool.and_eq_true, decide_eq_true_eq] at hB
    obtain ⟨⟨⟨hr, _⟩, b1⟩, b2⟩ := hB
    obtain ⟨_, o, h0, _⟩ := mem_ready.1 (by rw [hr]; simp : x ∈ Region.ready .any l.toArray listed)
    obtain ⟨_, o2, h02, _⟩ := mem_ready.1 (by rw [hr]; simp : y ∈ Region.ready .any l.toArray listed)
    have h1 := (show kq P n l.toArray Q J (l.getD x Pm.dflt) (wt P n Q J l es tx) σ w ∧ kq P n l.toArray Q J (l.getD y Pm.dflt) (wt P n Q J l es ty) σ w from h).1.out
    have h2 := (show kq P n l.toArray Q J (l.getD x Pm.dflt) (wt P n Q J l es tx) σ w ∧ kq P n l.toArray Q J (l.getD y Pm.dflt) (wt P n Q J l es ty) σ w from h).2.out
    refine ⟨?_, ?_⟩
    · rw [Pm.pk_get h0] at h1 ⊢
      exact oneK_mono h0 (fun a w ⟨σ', e, h2⟩ => by rw [e]; exact wt_sound tx _ σ' w b1 h2) h1
    · rw [Pm.pk_get h02] at h2 ⊢
      exact oneK_mono h02 (fun a w ⟨σ', e, h2⟩ => by rw [e]; exact wt_sound ty _ σ' w b2 h2) h2
section
variable {P : Program} {n : Nat} {ops : Array Oper} {Q : Post} {J : World → Prop} {o : Oper} {K : (Nat → Value) → World → Prop} {σ : Nat → Value} {w : World} {v : Value} {l : List Oper} {es : List Nat}
theorem wt_fin (h : jq P n l.toArray J (fun σ' => Q .normal σ' w) (Pm.pk l es) σ) : wt P n Q J l es .fin σ w := h
theorem wt_one {k : Nat} {t : OT} (h : kq P n l.toArray Q J (l.getD k Pm.dflt) (wt P n Q J l es t) σ w) : wt P n Q J l es (.one k t) σ w := h
theorem wt_two {x y : Nat} {tx ty : OT} (h1 : kq P n l.toArray Q J (l.getD x Pm.dflt) (wt P n Q J l es tx) σ w) (h2 : kq P n l.toArray Q J (l.getD y Pm.dflt) (wt P n Q J l es ty) σ w) : wt P n Q J l es (.two x tx y ty) σ w := ⟨h1, h2⟩
theorem kq_valE {R : Value → World → Prop} (hw : wantS o ops n σ = true) (h : ∃ v w', Runs P (opv (cut n σ)) o w (.ok (.value v) w') ∧ R v w') (k : ∀ v w', R v w' → J w' ∧ K (updO σ o.dst v) w') : kq P n ops Q J o K σ w := by
  obtain ⟨v, w', hrun, hr⟩ := h
  refine ⟨?_⟩
  unfold oneK
  rw [if_pos (by rw [yielded_eq]; exact hw)]
  left
  left
  unfold Oper.wp
  rw [Fr_eval, hrun.out, Oper.upon_value, Fr_put]
  exact ⟨(k v w' hr).1, _, rfl, (k v w' hr).2⟩
theorem kq_callR {f : FuncId} {args : Array Value} {R : Value → World → Prop} (hw : wantS o ops n σ = true) (hrun : Runs P (opv (cut n σ)) o w (.ok (.enter f args) w)) (hc : CallsR P f args w R)
    (k : ∀ v w1, Below w.heap.size w w1 → R v w1 → J w1 ∧ K (updO σ o.dst v) w1) : kq P n ops Q J o K σ w := by
  refine ⟨?_⟩
  unfold oneK
  rw [if_pos (by rw [yielded_eq]; exact hw)]
  left
  left
  unfold Oper.wp
  rw [Fr_eval, hrun.out, Oper.upon_enter]
  refine Calls.mono hc.out fun e w1 ⟨v, he, hb, hR⟩ => ?_
  subst he
  exact ⟨(k v w1 hb hR).1, updO σ o.dst v, by rw [Fr_put], (k v w1 hb hR).2⟩
end
theorem WP_drawT {P : Program} {n : Nat} {Q : Post} {σ : Nat → Value} {w : World} {id : Nat} {l : List Oper} (J : World → Prop) (hs : List Nat) (t : OT) (es : List Nat) (hm : P.follows .mixedOrders = true) (hz : Nat.beq (hs.length + (t.cnt + es.length)) l.length = true) (hB : permTB .any l.toArray hs t es = true)
    (hJ : ∀ w', Below w.heap.size w w' → J w')
    (h : ∀ w', Below w.heap.size w w' → jq P n l.toArray J (fun σ' => wt P n (calm Q) J l es t σ' w') (Pm.pk l hs) σ) : WP P n (.region id l.toArray true) Q σ w := by
  refine ⟨sw_mono NoPanic.imp (sw_any hm (sAny_of_J (J := J) (nj := fun d => !([] : List Nat).contains d) _ _ _ _ ?_))⟩
  simp only [permTB, Bool.and_eq_true] at hB
  have hq : lift n (calm Q) = NoPanic (lift n Q) := by
    funext e a w
    cases e <;> simp [lift, calm, NoPanic]
  have hb : Below w.heap.size w { w with drawn := w.drawn + 1 } := drew_grown w
  have key := headT (P := P) (Q := NoPanic (lift n Q)) (md := .any) (J := J) (l := l) (t := t) (es := es) hB.1 (fun c a w h => by simp [NoPanic] at h) hs (Array.replicate l.toArray.size false) (Fr n σ) { w with drawn := w.drawn + 1 } hB.2 (fun j oj _ hl => by rw [getD_replicate_false] at hl; cases hl) (hJ _ hb)
  have e : hs.length + (t.cnt + es.length) = l.toArray.size := by simpa using Nat.eq_of_beq_eq_true hz
  rw [e] at key
  refine key ?_
  have last : ∀ (ks : List Nat) (listed : Array Bool), headTB .any l.toArray t es ks listed = true → ∃ listed', treeB .any l.toArray es t listed' = true := by
    intro ks
    induction ks with
    | nil => intro listed h; exact ⟨listed, h⟩
    | cons k ks ih => intro listed h; simp only [headTB, Bool.and_eq_true] at h; exact ih _ h.2
  obtain ⟨listed', hl'⟩ := last hs _ hB.2
  have mono : ∀ (l' : List Oper) (a : Act), wpJ P l.toArray J (fun a => ∃ σ', a = Fr n σ' ∧ wt P n (calm Q) J l es t σ' { w with drawn := w.drawn + 1 }) l' a →
      wpJ P l.toArray J (fun a' => sTree P (NoPanic (lift n Q)) J l es t a' { w with drawn := w.drawn + 1 }) l' a := by
    intro l'
    induction l' with
    | nil => rintro a ⟨σ', rfl, hh⟩; rw [← hq]; exact wt_sound t listed' σ' _ hl' hh
    | cons o r ih =>
      intro a ha
      unfold wpJ at ha ⊢
      split
      · rename_i hw; rw [if_pos hw] at ha; obtain ⟨v, h1, h2⟩ := ha; exact ⟨v, h1, ih _ h2⟩
      · rename_i hw; rw [if_neg hw] at ha; exact ih _ ha
  exact mono _ _ (h _ hb).out
end Go.Gx
