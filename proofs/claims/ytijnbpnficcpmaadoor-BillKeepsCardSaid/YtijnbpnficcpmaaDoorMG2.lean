/- Merged texts: GxJ4, GxJ5, GxRange, GxJ6, GxQue, GxArr. -/
import Derived.Test.YtijnbpnficcpmaaDoorMG1
import Derived.RangeFuncLeaves
import Derived.RangeFuncOwn
import Derived.ArgAppend
/-
  A region that draws its order: loads and values; then one operation that grows the world (a call); then values of a class of worlds, beside writes that stay in the class.
-/
namespace Go.Gx
open Go Go.RowKit Go.Gx
set_option linter.unusedVariables false
set_option linter.unusedSimpArgs false

section
variable {P : Program} {ops : Array Oper} {Q : Exit → Act → World → Prop} {md : Region.Mode} {J : World → Prop} {nj : Nat → Bool}
def headKB (md : Region.Mode) (ops : Array Oper) (k : Nat) (hs2 ts us : List Nat) : List Nat → Array Bool → Bool
  | [], listed => decide (Region.ready md ops listed = [k]) && headJB md ops ts us hs2 (listed.setIfInBounds k true)
  | i :: is, listed => (Region.ready md ops listed).contains i && Region.free md ops listed i && (us.all fun d => reachG md ops i ops.size d) && headKB md ops k hs2 ts us is (listed.setIfInBounds i true)
def permKB (md : Region.Mode) (ops : Array Oper) (hs : List Nat) (k : Nat) (hs2 ts us : List Nat) : Bool := Region.noSelect ops && headKB md ops k hs2 ts us hs (Array.replicate ops.size false)
def oneK (P : Program) (ops : Array Oper) (Q : Exit → Act → World → Prop) (J : World → Prop) (o : Oper) (K : Act → World → Prop) (a : Act) (w : World) : Prop :=
  if Region.wanted o (yielded ops a.tmps) = true then Oper.sp P o a w (fun a' w' => J w' ∧ K a' w') Q else J w ∧ K (a.put o.dst undef) w
theorem headK {l : List Oper} {hs2 ts us : List Nat} {k : Nat} {ok : Oper} (hk : l.toArray[k]? = some ok) (hsel : Region.noSelect l.toArray = true) (hQ : ∀ c a w, ¬ Q (.panic c) a w) :
    ∀ (is : List Nat) (listed : Array Bool) (a : Act) (w : World), headKB md l.toArray k hs2 ts us is listed = true → ClosedG md l.toArray listed → J w →
    wpJ P l.toArray J (fun a' => oneK P l.toArray Q J ok (fun a2 w2 => wpJ P l.toArray J (fun a3 => sListJ P l.toArray Q J (Pm.pk l us) (Pm.pk l ts) a3 w2) (Pm.pk l hs2) a2) a' w) (Pm.pk l is) a →
    sAnyJ P md l.toArray Q J (fun d => !us.contains d) (is.length + (1 + (hs2.length + (ts.length + us.length)))) listed a w
  | [], listed, a, w, hB, hc, hJ, h => by
    simp only [headKB, Bool.and_eq_true, decide_eq_true_eq] at hB
    have e : ([] : List Nat).length + (1 + (hs2.length + (ts.length + us.length))) = hs2.length + (ts.length + us.length) + 1 := by simp; omega
    rw [e]
    have hr : k ∈ Region.ready md l.toArray listed := by rw [hB.1]; exact List.mem_singleton.2 rfl
    refine ⟨fun h1 => (by rw [hB.1] at h1; cases h1), fun i hi => ?_⟩
    rw [hB.1] at hi
    have hik : i = k := List.mem_singleton.1 hi
    subst hik
    have h' : oneK P l.toArray Q J ok (fun a2 w2 => wpJ P l.toArray J (fun a3 => sListJ P l.toArray Q J (Pm.pk l us) (Pm.pk l ts) a3 w2) (Pm.pk l hs2) a2) a w := h
    have hw : sOp P l.toArray Q i (fun a' w' => J w' ∧ wpJ P l.toArray J (fun a3 => sListJ P l.toArray Q J (Pm.pk l us) (Pm.pk l ts) a3 w') (Pm.pk l hs2) a') a w := by
      unfold sOp; simp only [hk]; exact h'
    exact sOp_mono (fun a' w' h2 => ⟨fun _ => h2.1, headJ hsel hQ hs2 _ a' w' hB.2 (hc.set hr) h2.1 h2.2⟩) hw
  | i :: is, listed, a, w, hB, hc, hJ, h => by
    simp only [headKB, Bool.and_eq_true] at hB
    obtain ⟨⟨⟨hr, hf⟩, hd⟩, hB'⟩ := hB
    have hr' : i ∈ Region.ready md l.toArray listed := by simpa using hr
    obtain ⟨_, o, h0, _⟩ := mem_ready.1 hr'
    rw [Pm.pk, Pm.pk_get h0] at h
    have hy : ∃ v, YieldsJ P l.toArray J o v a ∧ wpJ P l.toArray J (fun a' => oneK P l.toArray Q J ok (fun a2 w2 => wpJ P l.toArray J (fun a3 => sListJ P l.toArray Q J (Pm.pk l us) (Pm.pk l ts) a3 w2) (Pm.pk l hs2) a2) a' w) (Pm.pk l is) (a.put o.dst v) := by
      unfold wpJ at h
      by_cases hw : Region.wanted o (yielded l.toArray a.tmps) = true
      · rw [if_pos hw] at h
        obtain ⟨v, h1, h2⟩ := h
        exact ⟨v, .inl ⟨hw, h1⟩, h2⟩
      · rw [if_neg hw] at h
        exact ⟨undef, .inr ⟨by simpa using hw, rfl⟩, h⟩
    obtain ⟨v, hy, hK⟩ := hy
    have hrec := headK hk hsel hQ is _ (a.put o.dst v) w hB' (hc.set hr') hJ hK
    have e : (i :: is).length + (1 + (hs2.length + (ts.length + us.length))) = is.length + (1 + (hs2.length + (ts.length + us.length))) + 1 := by simp; omega
    rw [e]
    exact firstJ h0 (Region.noSelect_spec hsel) (fun c a w h => absurd h (hQ _ _ _)) (fun d hdu hds => List.all_eq_true.1 hd d (by simpa using hdu)) _ listed a w (Region.free_spec h0 hf) hc hr' hy hJ hrec
end
/-- The one operation that grows the world. -/
structure kq (P : Program) (n : Nat) (ops : Array Oper) (Q : Post) (J : World → Prop) (o : Oper) (K : (Nat → Value) → World → Prop) (σ : Nat → Value) (w : World) : Prop where mk :: (out : oneK P ops (lift n Q) J o (fun a w => ∃ σ', a = Fr n σ' ∧ K σ' w) (Fr n σ) w)
theorem kq_callV {P : Program} {n : Nat} {ops : Array Oper} {Q : Post} {J : World → Prop} {o : Oper} {K : (Nat → Value) → World → Prop} {σ : Nat → Value} {w : World} {v : Value} {f : FuncId} {args : Array Value} (hw : wantS o ops n σ = true) (hrun : Runs P (opv (cut n σ)) o w (.ok (.enter f args) w)) (hc : CallsV P f args w v)
    (k : ∀ w1, Below w.heap.size w w1 → J w1 ∧ K (updO σ o.dst v) w1) : kq P n ops Q J o K σ w := by
  refine ⟨?_⟩
  unfold oneK
  rw [if_pos (by rw [yielded_eq]; exact hw)]
  left
  left
  unfold Oper.wp
  rw [Fr_eval, hrun.out, Oper.upon_enter]
  refine Calls.mono hc.out fun e w1 ⟨he, hb⟩ => ?_
  subst he
  exact ⟨(k w1 hb).1, updO σ o.dst v, by rw [Fr_put], (k w1 hb).2⟩
theorem WP_drawK {P : Program} {n : Nat} {Q : Post} {σ : Nat → Value} {w : World} {id : Nat} {l : List Oper} (J : World → Prop) (hs : List Nat) (k : Nat) (hs2 ts us : List Nat) (ok : Oper) (hk : l.toArray[k]? = some ok) (hm : P.follows .mixedOrders = true) (hz : Nat.beq (hs.length + (1 + (hs2.length + (ts.length + us.length)))) l.length = true) (hB : permKB .any l.toArray hs k hs2 ts us = true)
    (hJ : ∀ w', Below w.heap.size w w' → J w')
    (h : ∀ w', Below w.heap.size w w' → jq P n l.toArray J (fun σ' => kq P n l.toArray (calm Q) J ok (fun σ2 w2 => jq P n l.toArray J (fun σ3 => wj P n l.toArray (calm Q) J (Pm.pk l us) (Pm.pk l ts) σ3 w2) (Pm.pk l hs2) σ2) σ' w') (Pm.pk l hs) σ) : WP P n (.region id l.toArray true) Q σ w := by
  refine ⟨sw_mono NoPanic.imp (sw_any hm (sAny_of_J (J := J) (nj := fun d => !us.contains d) _ _ _ _ ?_))⟩
  simp only [permKB, Bool.and_eq_true] at hB
  have hq : lift n (calm Q) = NoPanic (lift n Q) := by
    funext e a w
    cases e <;> simp [lift, calm, NoPanic]
  have hb : Below w.heap.size w { w with drawn := w.drawn + 1 } := drew_grown w
  have key := headK (P := P) (Q := NoPanic (lift n Q)) (md := .any) (J := J) (l := l) (hs2 := hs2) (ts := ts) (us := us) hk hB.1 (fun c a w h => by simp [NoPanic] at h) hs (Array.replicate l.toArray.size false) (Fr n σ) { w with drawn := w.drawn + 1 } hB.2 (fun j oj _ hl => by rw [getD_replicate_false] at hl; cases hl) (hJ _ hb)
  have e : hs.length + (1 + (hs2.length + (ts.length + us.length))) = l.toArray.size := by simpa using Nat.eq_of_beq_eq_true hz
  rw [e] at key
  refine key ?_
  have mono2 : ∀ (w2 : World) (l' : List Oper) (a : Act), wpJ P l.toArray J (fun a => ∃ σ', a = Fr n σ' ∧ wj P n l.toArray (calm Q) J (Pm.pk l us) (Pm.pk l ts) σ' w2) l' a →
      wpJ P l.toArray J (fun a' => sListJ P l.toArray (NoPanic (lift n Q)) J (Pm.pk l us) (Pm.pk l ts) a' w2) l' a := by
    intro w2 l'
    induction l' with
    | nil => rintro a ⟨σ', rfl, hh⟩; rw [← hq]; exact hh.out
    | cons o r ih =>
      intro a ha
      unfold wpJ at ha ⊢
      split
      · rename_i hw; rw [if_pos hw] at ha; obtain ⟨v, h1, h2⟩ := ha; exact ⟨v, h1, ih _ h2⟩
      · rename_i hw; rw [if_neg hw] at ha; exact ih _ ha
  have one : ∀ (σ' : Nat → Value) (w' : World), kq P n l.toArray (calm Q) J ok (fun σ2 w2 => jq P n l.toArray J (fun σ3 => wj P n l.toArray (calm Q) J (Pm.pk l us) (Pm.pk l ts) σ3 w2) (Pm.pk l hs2) σ2) σ' w' →
      oneK P l.toArray (NoPanic (lift n Q)) J ok (fun a2 w2 => wpJ P l.toArray J (fun a3 => sListJ P l.toArray (NoPanic (lift n Q)) J (Pm.pk l us) (Pm.pk l ts) a3 w2) (Pm.pk l hs2) a2) (Fr n σ') w' := by
    intro σ' w' hh
    have h1 := hh.out
    rw [hq] at h1
    have h2 : sOp P l.toArray (NoPanic (lift n Q)) k (fun a w => J w ∧ ∃ σ2, a = Fr n σ2 ∧ jq P n l.toArray J (fun σ3 => wj P n l.toArray (calm Q) J (Pm.pk l us) (Pm.pk l ts) σ3 w) (Pm.pk l hs2) σ2) (Fr n σ') w' := by
      unfold sOp; simp only [hk]; exact h1
    have h3 := sOp_mono (fun a' w'' ⟨hj, σ2, ha, h2⟩ => (show J w'' ∧ wpJ P l.toArray J (fun a3 => sListJ P l.toArray (NoPanic (lift n Q)) J (Pm.pk l us) (Pm.pk l ts) a3 w'') (Pm.pk l hs2) a' from ⟨hj, by subst ha; exact mono2 _ _ _ h2.out⟩)) h2
    unfold sOp at h3
    simp only [hk] at h3
    exact h3
  have mono : ∀ (l' : List Oper) (a : Act) (w' : World), wpJ P l.toArray J (fun a => ∃ σ', a = Fr n σ' ∧ kq P n l.toArray (calm Q) J ok (fun σ2 w2 => jq P n l.toArray J (fun σ3 => wj P n l.toArray (calm Q) J (Pm.pk l us) (Pm.pk l ts) σ3 w2) (Pm.pk l hs2) σ2) σ' w') l' a →
      wpJ P l.toArray J (fun a' => oneK P l.toArray (NoPanic (lift n Q)) J ok (fun a2 w2 => wpJ P l.toArray J (fun a3 => sListJ P l.toArray (NoPanic (lift n Q)) J (Pm.pk l us) (Pm.pk l ts) a3 w2) (Pm.pk l hs2) a2) a' w') l' a := by
    intro l'
    induction l' with
    | nil => rintro a w' ⟨σ', rfl, hh⟩; exact one _ _ hh
    | cons o r ih =>
      intro a w' ha
      unfold wpJ at ha ⊢
      split
      · rename_i hw; rw [if_pos hw] at ha; obtain ⟨v, h1, h2⟩ := ha; exact ⟨v, h1, ih _ _ h2⟩
      · rename_i hw; rw [if_neg hw] at ha; exact ih _ _ ha
  exact mono _ _ _ (h _ hb).out
end Go.Gx
/-
  A region that draws its order: loads and values; then writes (and what grows the world) in the orders of a tree; then plain operations in any order.
-/
namespace Go.Gx
open Go Go.RowKit Go.Gx
set_option linter.unusedVariables false
set_option linter.unusedSimpArgs false

/-- The orders that are left. -/
inductive OT
  | fin
  | one (k : Nat) (t : OT)
  | two (x : Nat) (tx : OT) (y : Nat) (ty : OT)
def OT.cnt : OT → Nat
  | .fin => 0
  | .one _ t => t.cnt + 1
  | .two _ tx _ _ => tx.cnt + 1
section
variable {P : Program} {ops : Array Oper} {Q : Exit → Act → World → Prop} {md : Region.Mode} {J : World → Prop}
def treeB (md : Region.Mode) (ops : Array Oper) (es : List Nat) : OT → Array Bool → Bool
  | .fin, listed => headJB md ops [] [] es listed
  | .one k t, listed => decide (Region.ready md ops listed = [k]) && treeB md ops es t (listed.setIfInBounds k true)
  | .two x tx y ty, listed => decide (Region.ready md ops listed = [x, y]) && Nat.beq tx.cnt ty.cnt && treeB md ops es tx (listed.setIfInBounds x true) && treeB md ops es ty (listed.setIfInBounds y true)
def headTB (md : Region.Mode) (ops : Array Oper) (t : OT) (es : List Nat) : List Nat → Array Bool → Bool
  | [], listed => treeB md ops es t listed
  | k :: ks, listed => (Region.ready md ops listed).contains k && Region.free md ops listed k && headTB md ops t es ks (listed.setIfInBounds k true)
def permTB (md : Region.Mode) (ops : Array Oper) (hs : List Nat) (t : OT) (es : List Nat) : Bool := Region.noSelect ops && headTB md ops t es hs (Array.replicate ops.size false)
def sTree (P : Program) (Q : Exit → Act → World → Prop) (J : World → Prop) (l : List Oper) (es : List Nat) : OT → Act → World → Prop
  | .fin, a, w => wpJ P l.toArray J (fun a' => Q .normal a' w) (Pm.pk l es) a
  | .one k t, a, w => oneK P l.toArray Q J (l.getD k Pm.dflt) (sTree P Q J l es t) a w
  | .two x tx y ty, a, w => oneK P l.toArray Q J (l.getD x Pm.dflt) (sTree P Q J l es tx) a w ∧ oneK P l.toArray Q J (l.getD y Pm.dflt) (sTree P Q J l es ty) a w
theorem tree_any {l : List Oper} {es : List Nat} (hsel : Region.noSelect l.toArray = true) (hQ : ∀ c a w, ¬ Q (.panic c) a w) : ∀ (t : OT) (listed : Array Bool) (a : Act) (w : World),
    treeB md l.toArray es t listed = true → ClosedG md l.toArray listed → J w → sTree P Q J l es t a w → sAnyJ P md l.toArray Q J (fun d => !([] : List Nat).contains d) (t.cnt + es.length) listed a w
  | .fin, listed, a, w, hB, hc, hJ, h => by
    have := headJ (P := P) (Q := Q) (md := md) (J := J) (l := l) (ts := []) (us := []) hsel hQ es listed a w hB hc hJ h
    simpa [OT.cnt] using this
  | .one k t, listed, a, w, hB, hc, hJ, h => by
    simp only [treeB, Bool.and_eq_true, decide_eq_true_eq] at hB
    have e : (OT.one k t).cnt + es.length = t.cnt + es.length + 1 := by simp only [OT.cnt]; omega
    rw [e]
    refine ⟨fun h1 => (by rw [hB.1] at h1; cases h1), fun i hi => ?_⟩
    have hi0 := hi
    obtain ⟨hun, o, h0, _⟩ := mem_ready.1 hi
    rw [hB.1] at hi
    have hik : i = k := by simpa using hi
    subst hik
    have h' : oneK P l.toArray Q J (l.getD i Pm.dflt) (sTree P Q J l es t) a w := h
    rw [Pm.pk_get h0] at h'
    have hw : sOp P l.toArray Q i (fun a' w' => J w' ∧ sTree P Q J l es t a' w') a w := by unfold sOp; simp only [h0]; exact h'
    exact sOp_mono (fun a' w' h' => ⟨fun _ => h'.1, tree_any hsel hQ t _ a' w' hB.2 (hc.set hi0) h'.1 h'.2⟩) hw
  | .two x tx y ty, listed, a, w, hB, hc, hJ, h => by
    simp only [treeB, Bool.and_eq_true, decide_eq_true_eq] at hB
    obtain ⟨⟨⟨hr, hcnt⟩, h1⟩, h2⟩ := hB
    have hce := Nat.eq_of_beq_eq_true hcnt
    have e : (OT.two x tx y ty).cnt + es.length = tx.cnt + es.length + 1 := by simp only [OT.cnt]; omega
    rw [e]
    refine ⟨fun h1 => (by rw [hr] at h1; cases h1), fun i hi => ?_⟩
    have hi0 := hi
    obtain ⟨hun, o, h0, _⟩ := mem_ready.1 hi
    rw [hr] at hi
    have hik : i = x ∨ i = y := by simpa using hi
    rcases hik with hik | hik
    · subst hik
      have h' : oneK P l.toArray Q J (l.getD i Pm.dflt) (sTree P Q J l es tx) a w := h.1
      rw [Pm.pk_get h0] at h'
      have hw : sOp P l.toArray Q i (fun a' w' => J w' ∧ sTree P Q J l es tx a' w') a w := by unfold sOp; simp only [h0]; exact h'
      exact sOp_mono (fun a' w' h' => ⟨fun _ => h'.1, tree_any hsel hQ tx _ a' w' h1 (hc.set hi0) h'.1 h'.2⟩) hw
    · subst hik
      have h' : oneK P l.toArray Q J (l.getD i Pm.dflt) (sTree P Q J l es ty) a w := h.2
      rw [Pm.pk_get h0] at h'
      have hw : sOp P l.toArray Q i (fun a' w' => J w' ∧ sTree P Q J l es ty a' w') a w := by unfold sOp; simp only [h0]; exact h'
      rw [hce]
      exact sOp_mono (fun a' w' h' => ⟨fun _ => h'.1, tree_any hsel hQ ty _ a' w' h2 (hc.set hi0) h'.1 h'.2⟩) hw
theorem headT {l : List Oper} {t : OT} {es : List Nat} (hsel : Region.noSelect l.toArray = true) (hQ : ∀ c a w, ¬ Q (.panic c) a w) :
    ∀ (ks : List Nat) (listed : Array Bool) (a : Act) (w : World), headTB md l.toArray t es ks listed = true → ClosedG md l.toArray listed → J w →
    wpJ P l.toArray J (fun a' => sTree P Q J l es t a' w) (Pm.pk l ks) a → sAnyJ P md l.toArray Q J (fun d => !([] : List Nat).contains d) (ks.length + (t.cnt + es.length)) listed a w
  | [], listed, a, w, hB, hc, hJ, h => by
    simp only [List.length_nil, Nat.zero_add]
    exact tree_any hsel hQ t listed a w hB hc hJ h
  | k :: ks, listed, a, w, hB, hc, hJ, h => by
    simp only [headTB, Bool.and_eq_true] at hB
    obtain ⟨⟨hr, hf⟩, hB'⟩ := hB
    have hr' : k ∈ Region.ready md l.toArray listed := by simpa using hr
    obtain ⟨_, o, h0, _⟩ := mem_ready.1 hr'
    rw [show Pm.pk l (k :: ks) = o :: Pm.pk l ks by rw [Pm.pk, Pm.pk_get h0]] at h
    have hy : ∃ v, YieldsJ P l.toArray J o v a ∧ wpJ P l.toArray J (fun a' => sTree P Q J l es t a' w) (Pm.pk l ks) (a.put o.dst v) := by
      unfold wpJ at h
      by_cases hw : Region.wanted o (yielded l.toArray a.tmps) = true
      · rw [if_pos hw] at h
        obtain ⟨v, h1, h2⟩ := h
        exact ⟨v, .inl ⟨hw, h1⟩, h2⟩
      · rw [if_neg hw] at h
        exact ⟨undef, .inr ⟨by simpa using hw, rfl⟩, h⟩
    obtain ⟨v, hy, hK⟩ := hy
    have hrec := headT hsel hQ ks _ (a.put o.dst v) w hB' (hc.set hr') hJ hK
    have e : (k :: ks).length + (t.cnt + es.length) = ks.length + (t.cnt + es.length) + 1 := by simp; omega
    rw [e]
    exact firstJ h0 (Region.noSelect_spec hsel) (fun c a w h => absurd h (hQ _ _ _)) (fun d hdu hds => by simp at hdu) _ listed a w (Region.free_spec h0 hf) hc hr' hy hJ hrec
end
/-- The tree, over frames. -/
def wt (P : Program) (n : Nat) (Q : Post) (J : World → Prop) (l : List Oper) (es : List Nat) : OT → (Nat → Value) → World → Prop
  | .fin, σ, w => jq P n l.toArray J (fun σ' => Q .normal σ' w) (Pm.pk l es) σ
  | .one k t, σ, w => kq P n l.toArray Q J (l.getD k Pm.dflt) (wt P n Q J l es t) σ w
  | .two x tx y ty, σ, w => kq P n l.toArray Q J (l.getD x Pm.dflt) (wt P n Q J l es tx) σ w ∧ kq P n l.toArray Q J (l.getD y Pm.dflt) (wt P n Q J l es ty) σ w
theorem oneK_mono {P : Program} {ops : Array Oper} {Q : Exit → Act → World → Prop} {J : World → Prop} {o : Oper} {K K' : Act → World → Prop} {a : Act} {w : World} {i : Nat} (hi : ops[i]? = some o) (hK : ∀ a w, K a w → K' a w) (h : oneK P ops Q J o K a w) : oneK P ops Q J o K' a w := by
  have h2 : sOp P ops Q i (fun a w => J w ∧ K a w) a w := by unfold sOp; simp only [hi]; exact h
  have h3 := sOp_mono (fun a' w' (⟨hj, hk⟩ : J w' ∧ K a' w') => (⟨hj, hK _ _ hk⟩ : J w' ∧ K' a' w')) h2
  unfold sOp at h3
  simp only [hi] at h3
  exact h3
theorem wt_sound {P : Program} {n : Nat} {Q : Post} {J : World → Prop} {l : List Oper} {es : List Nat} : ∀ (t : OT) (listed : Array Bool) (σ : Nat → Value) (w : World), treeB .any l.toArray es t listed = true → wt P n Q J l es t σ w → sTree P (lift n Q) J l es t (Fr n σ) w
  | .fin, listed, σ, w, _, h => by
    have mono : ∀ (l' : List Oper) (a : Act), wpJ P l.toArray J (fun a => ∃ σ', a = Fr n σ' ∧ Q .normal σ' w) l' a → wpJ P l.toArray J (fun a' => lift n Q .normal a' w) l' a := by
      intro l'
      induction l' with
      | nil => rintro a ⟨σ', rfl, hh⟩; exact ⟨σ', rfl, hh⟩
      | cons o r ih =>
        intro a ha
        unfold wpJ at ha ⊢
        split
        · rename_i hw; rw [if_pos hw] at ha; obtain ⟨v, h1, h2⟩ := ha; exact ⟨v, h1, ih _ h2⟩
        · rename_i hw; rw [if_neg hw] at ha; exact ih _ ha
    exact mono _ _ (show jq P n l.toArray J (fun σ' => Q .normal σ' w) (Pm.pk l es) σ from h).out
  | .one k t, listed, σ, w, hB, h => by
    simp only [treeB, Bool.and_eq_true, decide_eq_true_eq] at hB
    obtain ⟨_, o, h0, _⟩ := mem_ready.1 (by rw [hB.1]; exact List.mem_singleton.2 rfl : k ∈ Region.ready .any l.toArray listed)
    have h' := (show kq P n l.toArray Q J (l.getD k Pm.dflt) (wt P n Q J l es t) σ w from h).out
    show oneK P l.toArray (lift n Q) J (l.getD k Pm.dflt) (sTree P (lift n Q) J l es t) (Fr n σ) w
    rw [Pm.pk_get h0] at h' ⊢
    exact oneK_mono h0 (fun a w ⟨σ', e, h2⟩ => by rw [e]; exact wt_sound t _ σ' w hB.2 h2) h'
  | .two x tx y ty, listed, σ, w, hB, h => by
    simp only [treeB, Bool.and_eq_true, decide_eq_true_eq] at hB
    obtain ⟨⟨⟨hr, _⟩, b1⟩, b2⟩ := hB
    obtain ⟨_, o, h0, _⟩ := mem_ready.1 (by rw [hr]; simp : x ∈ Region.ready .any l.toArray listed)
    obtain ⟨_, o2, h02, _⟩ := mem_ready.1 (by rw [hr]; simp : y ∈ Region.ready .any l.toArray listed)
    have h1 := (show kq P n l.toArray Q J (l.getD x Pm.dflt) (wt P n Q J l es tx) σ w ∧ kq P n l.toArray Q J (l.getD y Pm.dflt) (wt P n Q J l es ty) σ w from h).1.out
    have h2 := (show kq P n l.toArray Q J (l.getD x Pm.dflt) (wt P n Q J l es tx) σ w ∧ kq P n l.toArray Q J (l.getD y Pm.dflt) (wt P n Q J l es ty) σ w from h).2.out
    refine ⟨?_, ?_⟩
    · rw [Pm.pk_get h0] at h1 ⊢
      exact oneK_mono h0 (fun a w ⟨σ', e, h2⟩ => by rw [e]; exact wt_sound tx _ σ' w b1 h2) h1
    · rw [Pm.pk_get h02] at h2 ⊢
      exact oneK_mono h02 (fun a w ⟨σ', e, h2⟩ => by rw [e]; exact wt_sound ty _ σ' w b2 h2) h2
section
variable {P : Program} {n : Nat} {ops : Array Oper} {Q : Post} {J : World → Prop} {o : Oper} {K : (Nat → Value) → World → Prop} {σ : Nat → Value} {w : World} {v : Value} {l : List Oper} {es : List Nat}
theorem wt_fin (h : jq P n l.toArray J (fun σ' => Q .normal σ' w) (Pm.pk l es) σ) : wt P n Q J l es .fin σ w := h
theorem wt_one {k : Nat} {t : OT} (h : kq P n l.toArray Q J (l.getD k Pm.dflt) (wt P n Q J l es t) σ w) : wt P n Q J l es (.one k t) σ w := h
theorem wt_two {x y : Nat} {tx ty : OT} (h1 : kq P n l.toArray Q J (l.getD x Pm.dflt) (wt P n Q J l es tx) σ w) (h2 : kq P n l.toArray Q J (l.getD y Pm.dflt) (wt P n Q J l es ty) σ w) : wt P n Q J l es (.two x tx y ty) σ w := ⟨h1, h2⟩
theorem kq_valE {R : Value → World → Prop} (hw : wantS o ops n σ = true) (h : ∃ v w', Runs P (opv (cut n σ)) o w (.ok (.value v) w') ∧ R v w') (k : ∀ v w', R v w' → J w' ∧ K (updO σ o.dst v) w') : kq P n ops Q J o K σ w := by
  obtain ⟨v, w', hrun, hr⟩ := h
  refine ⟨?_⟩
  unfold oneK
  rw [if_pos (by rw [yielded_eq]; exact hw)]
  left
  left
  unfold Oper.wp
  rw [Fr_eval, hrun.out, Oper.upon_value, Fr_put]
  exact ⟨(k v w' hr).1, _, rfl, (k v w' hr).2⟩
theorem kq_callR {f : FuncId} {args : Array Value} {R : Value → World → Prop} (hw : wantS o ops n σ = true) (hrun : Runs P (opv (cut n σ)) o w (.ok (.enter f args) w)) (hc : CallsR P f args w R)
    (k : ∀ v w1, Below w.heap.size w w1 → R v w1 → J w1 ∧ K (updO σ o.dst v) w1) : kq P n ops Q J o K σ w := by
  refine ⟨?_⟩
  unfold oneK
  rw [if_pos (by rw [yielded_eq]; exact hw)]
  left
  left
  unfold Oper.wp
  rw [Fr_eval, hrun.out, Oper.upon_enter]
  refine Calls.mono hc.out fun e w1 ⟨v, he, hb, hR⟩ => ?_
  subst he
  exact ⟨(k v w1 hb hR).1, updO σ o.dst v, by rw [Fr_put], (k v w1 hb hR).2⟩
end
theorem WP_drawT {P : Program} {n : Nat} {Q : Post} {σ : Nat → Value} {w : World} {id : Nat} {l : List Oper} (J : World → Prop) (hs : List Nat) (t : OT) (es : List Nat) (hm : P.follows .mixedOrders = true) (hz : Nat.beq (hs.length + (t.cnt + es.length)) l.length = true) (hB : permTB .any l.toArray hs t es = true)
    (hJ : ∀ w', Below w.heap.size w w' → J w')
    (h : ∀ w', Below w.heap.size w w' → jq P n l.toArray J (fun σ' => wt P n (calm Q) J l es t σ' w') (Pm.pk l hs) σ) : WP P n (.region id l.toArray true) Q σ w := by
  refine ⟨sw_mono NoPanic.imp (sw_any hm (sAny_of_J (J := J) (nj := fun d => !([] : List Nat).contains d) _ _ _ _ ?_))⟩
  simp only [permTB, Bool.and_eq_true] at hB
  have hq : lift n (calm Q) = NoPanic (lift n Q) := by
    funext e a w
    cases e <;> simp [lift, calm, NoPanic]
  have hb : Below w.heap.size w { w with drawn := w.drawn + 1 } := drew_grown w
  have key := headT (P := P) (Q := NoPanic (lift n Q)) (md := .any) (J := J) (l := l) (t := t) (es := es) hB.1 (fun c a w h => by simp [NoPanic] at h) hs (Array.replicate l.toArray.size false) (Fr n σ) { w with drawn := w.drawn + 1 } hB.2 (fun j oj _ hl => by rw [getD_replicate_false] at hl; cases hl) (hJ _ hb)
  have e : hs.length + (t.cnt + es.length) = l.toArray.size := by simpa using Nat.eq_of_beq_eq_true hz
  rw [e] at key
  refine key ?_
  have last : ∀ (ks : List Nat) (listed : Array Bool), headTB .any l.toArray t es ks listed = true → ∃ listed', treeB .any l.toArray es t listed' = true := by
    intro ks
    induction ks with
    | nil => intro listed h; exact ⟨listed, h⟩
    | cons k ks ih => intro listed h; simp only [headTB, Bool.and_eq_true] at h; exact ih _ h.2
  obtain ⟨listed', hl'⟩ := last hs _ hB.2
  have mono : ∀ (l' : List Oper) (a : Act), wpJ P l.toArray J (fun a => ∃ σ', a = Fr n σ' ∧ wt P n (calm Q) J l es t σ' { w with drawn := w.drawn + 1 }) l' a →
      wpJ P l.toArray J (fun a' => sTree P (NoPanic (lift n Q)) J l es t a' { w with drawn := w.drawn + 1 }) l' a := by
    intro l'
    induction l' with
    | nil => rintro a ⟨σ', rfl, hh⟩; rw [← hq]; exact wt_sound t listed' σ' _ hl' hh
    | cons o r ih =>
      intro a ha
      unfold wpJ at ha ⊢
      split
      · rename_i hw; rw [if_pos hw] at ha; obtain ⟨v, h1, h2⟩ := ha; exact ⟨v, h1, ih _ h2⟩
      · rename_i hw; rw [if_neg hw] at ha; exact ih _ ha
  exact mono _ _ (h _ hb).out
end Go.Gx
/-
  A range over a function: the loop's record and the block for deferred calls are objects of the call's own; frames that bear marks of such loops.
-/
namespace Go.Gx
open Go Go.RowKit
set_option linter.unusedVariables false
set_option linter.unusedSimpArgs false

/-! ### Objects told raw -/
theorem St.rawAt {w0 w : World} {os : List Ob} (S : St w0 w os) {i b : Nat} {o : Obj} (hi : os[i]? = some (.raw b o)) : w.heap[b]? = some o := (S.ok _ (mem_of_get hi)).2
theorem St.putRaw {w0 w : World} {os : List Ob} (S : St w0 w os) {i b : Nat} {o : Obj} (o' : Obj) (hi : os[i]? = some (.raw b o)) : St w0 (w.putObj b o') (os.set i (.raw b o')) := by
  have h := S.ok _ (mem_of_get hi)
  exact S.write hi (grownBy_putObj' w b o') ⟨h.1, World.putObj_heap_same (heap_lt h.2)⟩ (.inl rfl)
theorem St.newRaw {w0 w : World} {os : List Ob} (S : St w0 w os) (o : Obj) : St w0 (w.alloc o) (.raw w.heap.size o :: os) :=
  (S.new (o := .raw w.heap.size o) (below_alloc w o) ⟨Nat.le_refl _, World.alloc_heap_new w o⟩).front

/-! ### The loop's record, and a round -/
abbrev recL (fn : FuncId) (tmps : Array Value) (ps : Array Tmp) (assign body : Code) (Dk : Nat) : Loop := { state := .ready, pending := none, fn := fn, tmps := tmps, params := ps, assign := assign, body := body, defers := Dk }
abbrev recJ (r : Loop) (jump : Option Code) : Loop := { r with state := if jump.isNone then .ready else .done, pending := jump }
/-- How a round may be left. -/
def jumpOf : Exit → Option (Option Code)
  | .normal => some none
  | .ret => some (some .ret)
  | .exit id => some (some (.exit id))
  | _ => none

theorem round_WP {P : Program} {n L : Nat} {r : Loop} {w0 w : World} {os : List Ob} {σ1 : Nat → Value} {tmps : Array Value} {R : Value → World → Prop} (S : St w0 w (.raw L (.loop r) :: os)) (hr : r.state = .ready) (hd1 : noDefer r.assign = true) (hd2 : noDefer r.body = true)
    (ht : tmps = (Fr n σ1).tmps)
    (h : WP P n r.assign (fun e σ2 w2 => e = .normal ∧ ∃ os2, St w0 w2 (.raw L (.loop r) :: os2) ∧ ∀ w3, St w0 w3 (.raw L (.loop { r with state := .busy }) :: os2) →
      WP P n r.body (fun e σ4 w4 => ∃ jump os4, jumpOf e = some jump ∧ St w0 w4 (.raw L (.loop { r with state := .busy }) :: os4) ∧ ∀ w5, St w0 w5 (.raw L (.loop (recJ r jump)) :: os4) → R (.bool jump.isNone) w5) σ2 w3) σ1 w) :
    RoundIn Fence.wide 0 P L r.fn tmps r.assign r.body w fun e w'' => ∃ v, e = .returned v ∧ R v w'' := by
  subst ht
  refine roundIn_of_wpIn trivial ?_
  have z := sw_in (r := some L) (m := 0) (D := []) (.inr hd1) (by rintro ⟨a, w, σ', _, h⟩; cases h.1) h.out
  rw [actD_nil] at z
  have e0 : Fr n σ1 = { tmps := (Fr n σ1).tmps, defers := [] } := rfl
  rw [← e0]
  refine wpIn_mono (F := widR (some L)) z ?_
  rintro e a2 w2 ⟨b, hb, σ2, ha, he, os2, S2, hk⟩
  subst he ha
  rw [actD_nil] at hb
  subst hb
  have hrun := run_beginRound (P := P) (S2.rawAt (i := 0) rfl) hr
  refine ⟨_, hrun, ?_⟩
  have S3 : St w0 _ (.raw L (.loop { r with state := .busy }) :: os2) := S2.putRaw (i := 0) (.loop { r with state := .busy }) rfl
  have z := sw_in (r := some L) (m := 0) (D := []) (.inr hd2) (by rintro ⟨a, w, σ', _, j, os4, h, _⟩; cases h) (hk _ S3).out
  rw [actD_nil] at z
  refine wpIn_mono (F := widR (some L)) z ?_
  rintro e a4 w4 ⟨b, hb, σ4, ha, jump, os4, hj, S4, hk4⟩
  subst ha
  have hend := fun (j : Option Code) => run_endRound (P := P) j (S4.rawAt (i := 0) rfl)
  have S5 : St w0 _ (.raw L (.loop (recJ r jump)) :: os4) := S4.putRaw (i := 0) (.loop (recJ r jump)) rfl
  cases e with
  | normal => cases hj; exact ⟨_, _, hend none, _, rfl, hk4 _ S5⟩
  | ret => cases hj; exact ⟨_, _, hend (some .ret), _, rfl, hk4 _ S5⟩
  | exit id => cases hj; exact ⟨_, _, hend (some (.exit id)), _, rfl, hk4 _ S5⟩
  | goto t => cases hj
  | panic c => cases hj
  | outgrown => cases hj

/-- A call of yield. -/
theorem r_yield1 {P : Program} {ρ : Operand → Value} {w w0 : World} {d : Option Tmp} {ty : TypeId} {pos : String} {af : Array Edge} {g : Option (Nat × Bool)} {fo a0 : Operand} {v0 : Value} {L i : Nat} {r : Loop} {p : Tmp} {ats : Array TypeId} {os : List Ob} (S : St w0 w os) (hi : os[i]? = some (.raw L (.loop r)))
    (hf : ρ fo = .func (.yield L) #[] #[]) (h0 : ρ a0 = v0) (hp : r.params = #[p]) :
    Runs P ρ ⟨d, .call { callee := .value fo, args := #[a0], argTypes := ats }, ty, pos, af, g⟩ w (.ok (.round L r.fn (r.tmps.setIfInBounds p v0) r.assign r.body) w) :=
  ⟨by
    have e := run_yield (P := P) (args := #[v0]) (S.rawAt hi) (by rw [hp]; rfl)
    rw [hp] at e
    simp only [execOp, resolve, hf, Deferred.ofValue, List.map_toArray, List.map_cons, List.map_nil, h0]
    simpa [invoke, bind, Sem.bind, pure] using e⟩
theorem Fr_set (n : Nat) (σ : Nat → Value) (p : Nat) (v : Value) : (Fr n σ).tmps.setIfInBounds p v = (Fr n (upd σ p v)).tmps := congrArg Act.tmps (Fr_put n σ (some p) v)

/-! ### Frames that bear marks -/
def markD (b : Nat) : Deferred := { target := .collected b, args := #[] }
abbrev PostD := Exit → List Nat → (Nat → Value) → World → Prop
def liftD (n : Nat) (Q : PostD) : Exit → Act → World → Prop := fun e a w => ∃ D σ, a = actD (D.map markD) (Fr n σ) ∧ Q e D σ w
structure WD (P : Program) (n : Nat) (c : Code) (Q : PostD) (D : List Nat) (σ : Nat → Value) (w : World) : Prop where mk :: (out : c.wpIn Fence.wide 0 P (liftD n Q) (actD (D.map markD) (Fr n σ)) w)
class NoOut (Q : PostD) : Prop where out : ∀ D σ w, ¬ Q .outgrown D σ w
section
variable {P : Program} {n : Nat} {Q : PostD} {D : List Nat} {σ : Nat → Value} {w : World}
theorem WD_of {c : Code} [hQ : NoOut Q] (h : WP P n c (fun e σ w => Q e D σ w) σ w) : WD P n c Q D σ w := ⟨by
  have z := sw_in (r := none) (m := 0) (D := D.map markD) (.inl rfl) (by rintro ⟨a, w, σ', _, h⟩; exact hQ.out _ _ _ h) h.out
  refine wpIn_mono (F := Fence.wide) z ?_
  rintro e a w1 ⟨b, hb, σ', ha, hq⟩
  subst ha
  exact ⟨D, σ', hb, hq⟩⟩
def thenDP (k : List Nat → (Nat → Value) → World → Prop) (Q : PostD) : PostD
  | .normal, D, σ, w => k D σ w
  | e, D, σ, w => Q e D σ w
def inBDP (id : Nat) (Q : PostD) : PostD
  | .exit id', D, σ, w => if id' = id then Q .normal D σ w else Q (.exit id') D σ w
  | e, D, σ, w => Q e D σ w
instance {k : List Nat → (Nat → Value) → World → Prop} [h : NoOut Q] : NoOut (thenDP k Q) := ⟨fun D σ w => h.out D σ w⟩
instance {id : Nat} [h : NoOut Q] : NoOut (inBDP id Q) := ⟨fun D σ w => h.out D σ w⟩
theorem WD_seq {x y : Code} (h : WD P n x (thenDP (WD P n y Q) Q) D σ w) : WD P n (.seq x y) Q D σ w := ⟨by
  refine wpIn_seq (wpIn_mono h.out ?_)
  rintro e a w1 ⟨D', σ', ha, hq⟩
  subst ha
  cases e with
  | normal => exact WD.out hq
  | exit id => exact ⟨D', σ', rfl, hq⟩
  | goto l => exact ⟨D', σ', rfl, hq⟩
  | ret => exact ⟨D', σ', rfl, hq⟩
  | panic c => exact ⟨D', σ', rfl, hq⟩
  | outgrown => exact ⟨D', σ', rfl, hq⟩⟩
theorem WD_block {id : Nat} {c : Code} (h : WD P n c (inBDP id Q) D σ w) : WD P n (.block id c) Q D σ w := ⟨by
  refine wpIn_block (wpIn_mono h.out ?_)
  rintro e a w1 ⟨D', σ', ha, hq⟩
  subst ha
  cases e with
  | exit id' =>
    have hq' : if id' = id then Q .normal D' σ' w1 else Q (.exit id') D' σ' w1 := hq
    show if id' = id then liftD n Q .normal _ w1 else liftD n Q (.exit id') _ w1
    by_cases e : id' = id
    · rw [if_pos e] at hq' ⊢; exact ⟨D', σ', rfl, hq'⟩
    · rw [if_neg e] at hq' ⊢; exact ⟨D', σ', rfl, hq'⟩
  | normal => exact ⟨D', σ', rfl, hq⟩
  | goto l => exact ⟨D', σ', rfl, hq⟩
  | ret => exact ⟨D', σ', rfl, hq⟩
  | panic c => exact ⟨D', σ', rfl, hq⟩
  | outgrown => exact ⟨D', σ', rfl, hq⟩⟩
theorem thenD_normal {k : List Nat → (Nat → Value) → World → Prop} (h : k D σ w) : thenDP k Q .normal D σ w := h
theorem thenD_ret {k : List Nat → (Nat → Value) → World → Prop} (h : Q .ret D σ w) : thenDP k Q .ret D σ w := h
theorem inBD_normal {id : Nat} (h : Q .normal D σ w) : inBDP id Q .normal D σ w := h
theorem inBD_ret {id : Nat} (h : Q .ret D σ w) : inBDP id Q .ret D σ w := h
theorem WD_ret (h : Q .ret D σ w) : WD P n .ret Q D σ w := ⟨wpIn_ret ⟨D, σ, rfl, h⟩⟩
/-- The statement. -/
theorem WD_range {g : Operand} {ps : Array Tmp} {assign body : Code} {w0 : World} {os : List Ob} {gf : Nat} {lb : List Value} [he : Enters P gf] (S : St w0 w os) (hg : opv (cut n σ) g = .func (.func gf) #[] lb.toArray)
    (h : ∀ (fn L Dk : Nat) (w1 : World) (r : Loop), r = recL fn (Fr n σ).tmps ps assign body Dk → St w0 w1 (.raw L (.loop r) :: .raw Dk (.deferred (some [])) :: os) →
      Calls P gf (.func (.yield L) #[] #[] :: lb).toArray w1 fun e w' => (∃ v, e = .returned v) ∧ ∃ jump os', St w0 w' (.raw L (.loop (recJ r jump)) :: os') ∧
        ∀ w2, St w0 w2 os' → match jump with | none => Q .normal (Dk :: D) σ w2 | some c => WD P n c Q (Dk :: D) σ w2) :
    WD P n (.rangeFunc g ps assign body) Q D σ w := ⟨by
  refine wpIn_rangeFunc fun fn _ => ?_
  have hent := run_enterLoop_outer (P := P) (w := w) fn (Fr n σ).tmps ps assign body
  have S1 := (S.newRaw (.deferred (some []))).newRaw (.loop (recL fn (Fr n σ).tmps ps assign body w.heap.size))
  rw [World.size_alloc] at S1
  refine ⟨_, _, _, { target := .fn (.func gf) lb.toArray, args := #[.func (.yield (w.heap.size + 1)) #[] #[]] }, (w.alloc (.deferred (some []))).alloc (.loop (recL fn (Fr n σ).tmps ps assign body w.heap.size)), gf, (.func (.yield (w.heap.size + 1)) #[] #[] :: lb).toArray, _, hent, ?_, fun _ _ => trivial, ?_, (fun h => nomatch h), callsIn_wide.2 (Calls.mono (h fn (w.heap.size + 1) w.heap.size _ _ rfl S1) ?_)⟩
  · have hev : (actD (D.map markD) (Fr n σ)).eval g = .func (.func gf) #[] lb.toArray := by rw [actD_eval, Fr_eval]; exact hg
    simp only [resolve, rangeCall, hev, Deferred.ofValue]
    simp [pure, Sem.run, Act.eval]
  · have := he.out (.func (.yield (w.heap.size + 1)) #[] #[] :: lb).toArray
      ((w.alloc (.deferred (some []))).alloc (.loop (recL fn (Fr n σ).tmps ps assign body w.heap.size)))
    simpa [invoke, bind, Sem.bind, pure] using this
  · rintro e w' ⟨⟨v, rfl⟩, jump, os', S', hk⟩
    have hend := run_endLoop (P := P) (S'.rawAt (i := 0) rfl) (by show (if jump.isNone then LoopState.ready else .done) ≠ .busy; split <;> simp)
    have S2 := (S'.putRaw (i := 0) (.loop { recJ (recL fn (Fr n σ).tmps ps assign body w.heap.size) jump with state := .exhausted }) rfl).tail
    refine ⟨jump, _, hend, ?_⟩
    have e0 : ({ actD (D.map markD) (Fr n σ) with defers := [{ target := .collected w.heap.size, args := #[] }] ++ (actD (D.map markD) (Fr n σ)).defers } : Act) = actD ((w.heap.size :: D).map markD) (Fr n σ) := by
      simp [actD, Fr, markD]
    have h2 := hk _ S2
    cases jump with
    | none => exact ⟨_, σ, e0, h2⟩
    | some c => show c.wpIn Fence.wide 0 P (liftD n Q) _ _; rw [e0]; exact h2.out⟩
end

/-! ### A call's begin and end -/
abbrev marks (D : List Nat) : List Ob := D.map fun b => .raw b (.deferred (some []))
def endDD (P : Program) (fn : Func) (n : Nat) (R : Ending → World → Prop) : PostD := fun e D σ w =>
  match e with
  | .normal | .ret => LeavesInM Fence.wide 0 P fn (Fr n σ).tmps R (D.map markD) .returning w
  | _ => False
instance {P : Program} {fn : Func} {n : Nat} {R : Ending → World → Prop} : NoOut (endDD P fn n R) := ⟨fun _ _ _ h => h⟩
theorem leaves_marks {P : Program} {fn : Func} {tmps : Array Value} {R : Ending → World → Prop} {w0 : World} {os : List Ob} (h : ∀ w', St w0 w' os → ∃ v, (results fn tmps).run P w' = .ok v w' ∧ R (.returned v) w') :
    ∀ (D : List Nat) (w : World), St w0 w (marks D ++ os) → LeavesInM Fence.wide 0 P fn tmps R (D.map markD) .returning w
  | [], w, S => h w S
  | b :: D, w, S => by
    refine ⟨by simp, .inl ⟨b, _, rfl, run_takeDeferred (S.rawAt (i := 0) rfl), leaves_marks h D _ ?_⟩⟩
    exact (S.putRaw (i := 0) (.deferred none) rfl).tail
theorem calls_enterD {P : Program} {f n : Nat} {fn : Func} {c : Code} {l : List Value} {w : World} {R : Ending → World → Prop} (hf : P.funcs[f]? = some fn) (hb : fn.body = some c)
    (hn : fn.ntmps = n) (hln' : Nat.ble l.length n = true) (h : WD P n c (endDD P fn n R) [] (args0 l 0) w) : Calls P f l.toArray w R := by
  subst hn
  have hln : l.length ≤ fn.ntmps := Nat.le_of_ble_eq_true hln'
  refine callsIn_wide.1 (callsIn_of_wp_marks (F := Fence.wide) (n := 0) hf hb trivial ?_)
  have hfr : ({ tmps := l.toArray ++ Array.replicate (fn.ntmps - l.toArray.size) undef, defers := [] } : Act) = Fr fn.ntmps (args0 l 0) := by
    unfold Fr
    congr 1
    apply Array.ext_getElem?
    intro i
    rw [Array.getElem?_ofFn, Array.getElem?_append]
    by_cases h1 : i < l.length
    · have h2 : i < fn.ntmps := by omega
      simp [h1, h2, args0_get]
    · by_cases h2 : i < fn.ntmps
      · have h3 : i - l.length < fn.ntmps - l.length := by omega
        simp [h1, h2, args0_get, h3]
      · have h3 : ¬ i - l.length < fn.ntmps - l.length := by omega
        simp [h1, h2, h3]
  rw [hfr]
  have z := h.out
  rw [List.map_nil, actD_nil] at z
  refine wpIn_mono z ?_
  rintro e a w1 ⟨D, σ, rfl, hq⟩
  have ht : (actD (D.map markD) (Fr fn.ntmps σ)).tmps = (Fr fn.ntmps σ).tmps := rfl
  have hd : (actD (D.map markD) (Fr fn.ntmps σ)).defers = D.map markD := by simp [actD, Fr]
  cases e with
  | normal => show LeavesInM _ _ _ _ _ _ _ _ _; rw [ht, hd]; exact hq
  | ret => show LeavesInM _ _ _ _ _ _ _ _ _; rw [ht, hd]; exact hq
  | exit id => exact hq.elim
  | goto l => exact hq.elim
  | panic c => exact hq.elim
  | outgrown => exact hq.elim
end Go.Gx
/-
  A region that draws its order: a tree of orders, with loads and values, told once, between what writes or grows the world.
-/
namespace Go.Gx
open Go Go.RowKit Go.Gx
set_option linter.unusedVariables false
set_option linter.unusedSimpArgs false

/-- The orders that are left. -/
inductive OU
  | fin
  | vals (ks : List Nat) (t : OU)
  | one (k : Nat) (t : OU)
  | two (x : Nat) (tx : OU) (y : Nat) (ty : OU)
  | three (x : Nat) (tx : OU) (y : Nat) (ty : OU) (z : Nat) (tz : OU)
def OU.cnt : OU → Nat
  | .fin => 0
  | .vals ks t => ks.length + t.cnt
  | .one _ t => t.cnt + 1
  | .two _ tx _ _ => tx.cnt + 1
  | .three _ tx _ _ _ _ => tx.cnt + 1
section
variable {P : Program} {ops : Array Oper} {Q : Exit → Act → World → Prop} {md : Region.Mode} {J : World → Prop}
def valsB (md : Region.Mode) (ops : Array Oper) (K : Array Bool → Bool) : List Nat → Array Bool → Bool
  | [], listed => K listed
  | k :: ks, listed => (Region.ready md ops listed).contains k && Region.free md ops listed k && valsB md ops K ks (listed.setIfInBounds k true)
def treeU (md : Region.Mode) (ops : Array Oper) : OU → Array Bool → Bool
  | .fin, listed => headJB md ops [] [] [] listed
  | .vals ks t, listed => valsB md ops (treeU md ops t) ks listed
  | .one k t, listed => decide (Region.ready md ops listed = [k]) && treeU md ops t (listed.setIfInBounds k true)
  | .two x tx y ty, listed => decide (Region.ready md ops listed = [x, y]) && Nat.beq tx.cnt ty.cnt && treeU md ops tx (listed.setIfInBounds x true) && treeU md ops ty (listed.setIfInBounds y true)
  | .three x tx y ty z tz, listed => decide (Region.ready md ops listed = [x, y, z]) && Nat.beq tx.cnt ty.cnt && Nat.beq tx.cnt tz.cnt && treeU md ops tx (listed.setIfInBounds x true) && treeU md ops ty (listed.setIfInBounds y true) && treeU md ops tz (listed.setIfInBounds z true)
def permU (md : Region.Mode) (ops : Array Oper) (t : OU) : Bool := Region.noSelect ops && treeU md ops t (Array.replicate ops.size false)
def sTreeU (P : Program) (Q : Exit → Act → World → Prop) (J : World → Prop) (l : List Oper) : OU → Act → World → Prop
  | .fin, a, w => wpJ P l.toArray J (fun a' => Q .normal a' w) (Pm.pk l []) a
  | .vals ks t, a, w => wpJ P l.toArray J (fun a' => sTreeU P Q J l t a' w) (Pm.pk l ks) a
  | .one k t, a, w => oneK P l.toArray Q J (l.getD k Pm.dflt) (sTreeU P Q J l t) a w
  | .two x tx y ty, a, w => oneK P l.toArray Q J (l.getD x Pm.dflt) (sTreeU P Q J l tx) a w ∧ oneK P l.toArray Q J (l.getD y Pm.dflt) (sTreeU P Q J l ty) a w
  | .three x tx y ty z tz, a, w => oneK P l.toArray Q J (l.getD x Pm.dflt) (sTreeU P Q J l tx) a w ∧ oneK P l.toArray Q J (l.getD y Pm.dflt) (sTreeU P Q J l ty) a w ∧ oneK P l.toArray Q J (l.getD z Pm.dflt) (sTreeU P Q J l tz) a w
theorem vals_any {l : List Oper} {c : Nat} {K : Array Bool → Bool} {R : Act → World → Prop} (hsel : Region.noSelect l.toArray = true) (hQ : ∀ c a w, ¬ Q (.panic c) a w)
    (H : ∀ (listed : Array Bool) (a : Act) (w : World), K listed = true → ClosedG md l.toArray listed → J w → R a w → sAnyJ P md l.toArray Q J (fun d => !([] : List Nat).contains d) c listed a w) :
    ∀ (ks : List Nat) (listed : Array Bool) (a : Act) (w : World), valsB md l.toArray K ks listed = true → ClosedG md l.toArray listed → J w →
    wpJ P l.toArray J (fun a' => R a' w) (Pm.pk l ks) a → sAnyJ P md l.toArray Q J (fun d => !([] : List Nat).contains d) (ks.length + c) listed a w
  | [], listed, a, w, hB, hc, hJ, h => by
    simp only [List.length_nil, Nat.zero_add]
    exact H listed a w hB hc hJ h
  | k :: ks, listed, a, w, hB, hc, hJ, h => by
    simp only [valsB, Bool.and_eq_true] at hB
    obtain ⟨⟨hr, hf⟩, hB'⟩ := hB
    have hr' : k ∈ Region.ready md l.toArray listed := by simpa using hr
    obtain ⟨_, o, h0, _⟩ := mem_ready.1 hr'
    rw [show Pm.pk l (k :: ks) = o :: Pm.pk l ks by rw [Pm.pk, Pm.pk_get h0]] at h
    have hy : ∃ v, YieldsJ P l.toArray J o v a ∧ wpJ P l.toArray J (fun a' => R a' w) (Pm.pk l ks) (a.put o.dst v) := by
      unfold wpJ at h
      by_cases hw : Region.wanted o (yielded l.toArray a.tmps) = true
      · rw [if_pos hw] at h
        obtain ⟨v, h1, h2⟩ := h
        exact ⟨v, .inl ⟨hw, h1⟩, h2⟩
      · rw [if_neg hw] at h
        exact ⟨undef, .inr ⟨by simpa using hw, rfl⟩, h⟩
    obtain ⟨v, hy, hK⟩ := hy
    have hrec := vals_any hsel hQ H ks _ (a.put o.dst v) w hB' (hc.set hr') hJ hK
    have e : (k :: ks).length + c = ks.length + c + 1 := by simp; omega
    rw [e]
    exact firstJ h0 (Region.noSelect_spec hsel) (fun c a w h => absurd h (hQ _ _ _)) (fun d hdu hds => by simp at hdu) _ listed a w (Region.free_spec h0 hf) hc hr' hy hJ hrec
theorem step_any {l : List Oper} {t : OU} {listed : Array Bool} {a : Act} {w : World} {i : Nat} (hi0 : i ∈ Region.ready md l.toArray listed) (hc : ClosedG md l.toArray listed) (h : oneK P l.toArray Q J (l.getD i Pm.dflt) (sTreeU P Q J l t) a w)
    (H : ∀ (a : Act) (w : World), ClosedG md l.toArray (listed.setIfInBounds i true) → J w → sTreeU P Q J l t a w → sAnyJ P md l.toArray Q J (fun d => !([] : List Nat).contains d) t.cnt (listed.setIfInBounds i true) a w) :
    sOp P l.toArray Q i (fun a' w' => ((fun d => !([] : List Nat).contains d) i = true → J w') ∧ sAnyJ P md l.toArray Q J (fun d => !([] : List Nat).contains d) t.cnt (listed.setIfInBounds i true) a' w') a w := by
  obtain ⟨hun, o, h0, _⟩ := mem_ready.1 hi0
  rw [Pm.pk_get h0] at h
  have hw : sOp P l.toArray Q i (fun a' w' => J w' ∧ sTreeU P Q J l t a' w') a w := by unfold sOp; simp only [h0]; exact h
  exact sOp_mono (fun a' w' h' => ⟨fun _ => h'.1, H a' w' (hc.set hi0) h'.1 h'.2⟩) hw
theorem treeU_any {l : List Oper} (hsel : Region.noSelect l.toArray = true) (hQ : ∀ c a w, ¬ Q (.panic c) a w) : ∀ (t : OU) (listed : Array Bool) (a : Act) (w : World),
    treeU md l.toArray t listed = true → ClosedG md l.toArray listed → J w → sTreeU P Q J l t a w → sAnyJ P md l.toArray Q J (fun d => !([] : List Nat).contains d) t.cnt listed a w
  | .fin, listed, a, w, hB, hc, hJ, h => by
    have := headJ (P := P) (Q := Q) (md := md) (J := J) (l := l) (ts := []) (us := []) hsel hQ [] listed a w hB hc hJ h
    simpa [OU.cnt] using this
  | .vals ks t, listed, a, w, hB, hc, hJ, h => vals_any hsel hQ (fun listed a w => treeU_any hsel hQ t listed a w) ks listed a w hB hc hJ h
  | .one k t, listed, a, w, hB, hc, hJ, h => by
    simp only [treeU, Bool.and_eq_true, decide_eq_true_eq] at hB
    show sAnyJ P md l.toArray Q J _ (t.cnt + 1) listed a w
    refine ⟨fun h1 => (by rw [hB.1] at h1; cases h1), fun i hi => ?_⟩
    have hi0 := hi
    rw [hB.1] at hi
    have hik : i = k := by simpa using hi
    subst hik
    exact step_any hi0 hc h (fun a w hc hJ h => treeU_any hsel hQ t _ a w hB.2 hc hJ h)
  | .two x tx y ty, listed, a, w, hB, hc, hJ, h => by
    simp only [treeU, Bool.and_eq_true, decide_eq_true_eq] at hB
    obtain ⟨⟨⟨hr, hcnt⟩, h1⟩, h2⟩ := hB
    have hce := Nat.eq_of_beq_eq_true hcnt
    show sAnyJ P md l.toArray Q J _ (tx.cnt + 1) listed a w
    refine ⟨fun h1 => (by rw [hr] at h1; cases h1), fun i hi => ?_⟩
    have hi0 := hi
    rw [hr] at hi
    have hik : i = x ∨ i = y := by simpa using hi
    rcases hik with hik | hik
    · subst hik
      exact step_any hi0 hc h.1 (fun a w hc hJ h => treeU_any hsel hQ tx _ a w h1 hc hJ h)
    · subst hik
      rw [hce]
      exact step_any hi0 hc h.2 (fun a w hc hJ h => treeU_any hsel hQ ty _ a w h2 hc hJ h)
  | .three x tx y ty z tz, listed, a, w, hB, hc, hJ, h => by
    simp only [treeU, Bool.and_eq_true, decide_eq_true_eq] at hB
    obtain ⟨⟨⟨⟨⟨hr, hcnt⟩, hcnt2⟩, h1⟩, h2⟩, h3⟩ := hB
    have hce := Nat.eq_of_beq_eq_true hcnt
    have hce2 := Nat.eq_of_beq_eq_true hcnt2
    show sAnyJ P md l.toArray Q J _ (tx.cnt + 1) listed a w
    refine ⟨fun h1 => (by rw [hr] at h1; cases h1), fun i hi => ?_⟩
    have hi0 := hi
    rw [hr] at hi
    have hik : i = x ∨ i = y ∨ i = z := by simpa using hi
    rcases hik with hik | hik | hik
    · subst hik
      exact step_any hi0 hc h.1 (fun a w hc hJ h => treeU_any hsel hQ tx _ a w h1 hc hJ h)
    · subst hik
      rw [hce]
      exact step_any hi0 hc h.2.1 (fun a w hc hJ h => treeU_any hsel hQ ty _ a w h2 hc hJ h)
    · subst hik
      rw [hce2]
      exact step_any hi0 hc h.2.2 (fun a w hc hJ h => treeU_any hsel hQ tz _ a w h3 hc hJ h)
end
/-- The tree, over frames. -/
def wu (P : Program) (n : Nat) (Q : Post) (J : World → Prop) (l : List Oper) : OU → (Nat → Value) → World → Prop
  | .fin, σ, w => Q .normal σ w
  | .vals ks t, σ, w => jq P n l.toArray J (fun σ' => wu P n Q J l t σ' w) (Pm.pk l ks) σ
  | .one k t, σ, w => kq P n l.toArray Q J (l.getD k Pm.dflt) (wu P n Q J l t) σ w
  | .two x tx y ty, σ, w => kq P n l.toArray Q J (l.getD x Pm.dflt) (wu P n Q J l tx) σ w ∧ kq P n l.toArray Q J (l.getD y Pm.dflt) (wu P n Q J l ty) σ w
  | .three x tx y ty z tz, σ, w => kq P n l.toArray Q J (l.getD x Pm.dflt) (wu P n Q J l tx) σ w ∧ kq P n l.toArray Q J (l.getD y Pm.dflt) (wu P n Q J l ty) σ w ∧ kq P n l.toArray Q J (l.getD z Pm.dflt) (wu P n Q J l tz) σ w
theorem jq_tree {P : Program} {n : Nat} {Q : Post} {J : World → Prop} {l : List Oper} {K : (Nat → Value) → Prop} {K' : Act → Prop} {ks : List Nat} {σ : Nat → Value} (h : jq P n l.toArray J K (Pm.pk l ks) σ) (hK : ∀ σ', K σ' → K' (Fr n σ')) : wpJ P l.toArray J K' (Pm.pk l ks) (Fr n σ) := by
  have mono : ∀ (l' : List Oper) (a : Act), wpJ P l.toArray J (fun a => ∃ σ', a = Fr n σ' ∧ K σ') l' a → wpJ P l.toArray J K' l' a := by
    intro l'
    induction l' with
    | nil => rintro a ⟨σ', rfl, hh⟩; exact hK _ hh
    | cons o r ih =>
      intro a ha
      unfold wpJ at ha ⊢
      split
      · rename_i hw; rw [if_pos hw] at ha; obtain ⟨v, h1, h2⟩ := ha; exact ⟨v, h1, ih _ h2⟩
      · rename_i hw; rw [if_neg hw] at ha; exact ih _ ha
  exact mono _ _ h.out
theorem kq_tree {P : Program} {n : Nat} {Q : Post} {J : World → Prop} {l : List Oper} {K : (Nat → Value) → World → Prop} {K' : Act → World → Prop} {i : Nat} {md : Region.Mode} {listed : Array Bool} {σ : Nat → Value} {w : World} (hr : i ∈ Region.ready md l.toArray listed)
    (h : kq P n l.toArray Q J (l.getD i Pm.dflt) K σ w) (hK : ∀ σ' w', K σ' w' → K' (Fr n σ') w') : oneK P l.toArray (lift n Q) J (l.getD i Pm.dflt) K' (Fr n σ) w := by
  obtain ⟨_, o, h0, _⟩ := mem_ready.1 hr
  have h' := h.out
  rw [Pm.pk_get h0] at h' ⊢
  exact oneK_mono h0 (fun a w ⟨σ', e, h2⟩ => by rw [e]; exact hK σ' w h2) h'
theorem valsB_last {md : Region.Mode} {ops : Array Oper} {K : Array Bool → Bool} : ∀ {ks : List Nat} {listed : Array Bool}, valsB md ops K ks listed = true → ∃ listed', K listed' = true
  | [], listed, h => ⟨listed, h⟩
  | k :: ks, listed, h => by simp only [valsB, Bool.and_eq_true] at h; exact valsB_last h.2
theorem wu_sound {P : Program} {n : Nat} {Q : Post} {J : World → Prop} {l : List Oper} : ∀ (t : OU) (listed : Array Bool) (σ : Nat → Value) (w : World), treeU .any l.toArray t listed = true → wu P n Q J l t σ w → sTreeU P (lift n Q) J l t (Fr n σ) w
  | .fin, listed, σ, w, _, h => ⟨σ, rfl, h⟩
  | .vals ks t, listed, σ, w, hB, h => by
    obtain ⟨listed', hl⟩ := valsB_last (show valsB .any l.toArray (treeU .any l.toArray t) ks listed = true from hB)
    exact jq_tree (Q := Q) (show jq P n l.toArray J (fun σ' => wu P n Q J l t σ' w) (Pm.pk l ks) σ from h) (fun σ' h' => wu_sound t listed' σ' w hl h')
  | .one k t, listed, σ, w, hB, h => by
    simp only [treeU, Bool.and_eq_true, decide_eq_true_eq] at hB
    exact kq_tree (by rw [hB.1]; simp : k ∈ Region.ready .any l.toArray listed) h (fun σ' w' h' => wu_sound t _ σ' w' hB.2 h')
  | .two x tx y ty, listed, σ, w, hB, h => by
    simp only [treeU, Bool.and_eq_true, decide_eq_true_eq] at hB
    obtain ⟨⟨⟨hr, _⟩, b1⟩, b2⟩ := hB
    exact ⟨kq_tree (by rw [hr]; simp : x ∈ Region.ready .any l.toArray listed) h.1 (fun σ' w' h' => wu_sound tx _ σ' w' b1 h'), kq_tree (by rw [hr]; simp : y ∈ Region.ready .any l.toArray listed) h.2 (fun σ' w' h' => wu_sound ty _ σ' w' b2 h')⟩
  | .three x tx y ty z tz, listed, σ, w, hB, h => by
    simp only [treeU, Bool.and_eq_true, decide_eq_true_eq] at hB
    obtain ⟨⟨⟨⟨⟨hr, _⟩, _⟩, b1⟩, b2⟩, b3⟩ := hB
    exact ⟨kq_tree (by rw [hr]; simp : x ∈ Region.ready .any l.toArray listed) h.1 (fun σ' w' h' => wu_sound tx _ σ' w' b1 h'), kq_tree (by rw [hr]; simp : y ∈ Region.ready .any l.toArray listed) h.2.1 (fun σ' w' h' => wu_sound ty _ σ' w' b2 h'), kq_tree (by rw [hr]; simp : z ∈ Region.ready .any l.toArray listed) h.2.2 (fun σ' w' h' => wu_sound tz _ σ' w' b3 h')⟩
section
variable {P : Program} {n : Nat} {ops : Array Oper} {Q : Post} {J : World → Prop} {o : Oper} {K : (Nat → Value) → World → Prop} {σ : Nat → Value} {w : World} {v : Value} {l : List Oper}
theorem wu_fin (h : Q .normal σ w) : wu P n Q J l .fin σ w := h
theorem wu_vals {ks : List Nat} {t : OU} (h : jq P n l.toArray J (fun σ' => wu P n Q J l t σ' w) (Pm.pk l ks) σ) : wu P n Q J l (.vals ks t) σ w := h
theorem wu_one {k : Nat} {t : OU} (h : kq P n l.toArray Q J (l.getD k Pm.dflt) (wu P n Q J l t) σ w) : wu P n Q J l (.one k t) σ w := h
theorem wu_two {x y : Nat} {tx ty : OU} (h1 : kq P n l.toArray Q J (l.getD x Pm.dflt) (wu P n Q J l tx) σ w) (h2 : kq P n l.toArray Q J (l.getD y Pm.dflt) (wu P n Q J l ty) σ w) : wu P n Q J l (.two x tx y ty) σ w := ⟨h1, h2⟩
theorem kq_val (hw : wantS o ops n σ = true) (hrun : Runs P (opv (cut n σ)) o w (.ok (.value v) w)) (hJ : J w) (k : K (updO σ o.dst v) w) : kq P n ops Q J o K σ w :=
  kq_valE (R := fun v' w' => v' = v ∧ w' = w) hw ⟨v, w, hrun, rfl, rfl⟩ (by rintro _ _ ⟨rfl, rfl⟩; exact ⟨hJ, k⟩)
theorem kq_skipE {R : World → Prop} (hw : wantS o ops n σ = true) (h : ∃ w', Runs P (opv (cut n σ)) o w (.ok .skip w') ∧ R w') (k : ∀ w', R w' → J w' ∧ K (updO σ o.dst undef) w') : kq P n ops Q J o K σ w := by
  obtain ⟨w', hrun, hr⟩ := h
  refine ⟨?_⟩
  unfold oneK
  rw [if_pos (by rw [yielded_eq]; exact hw)]
  left
  left
  unfold Oper.wp
  rw [Fr_eval, hrun.out, Oper.upon_skip, Fr_put]
  exact ⟨(k w' hr).1, _, rfl, (k w' hr).2⟩
end
theorem WP_drawU {P : Program} {n : Nat} {Q : Post} {σ : Nat → Value} {w : World} {id : Nat} {l : List Oper} (J : World → Prop) (t : OU) (hm : P.follows .mixedOrders = true) (hz : Nat.beq t.cnt l.length = true) (hB : permU .any l.toArray t = true)
    (hJ : ∀ w', Below w.heap.size w w' → J w')
    (h : ∀ w', Below w.heap.size w w' → wu P n (calm Q) J l t σ w') : WP P n (.region id l.toArray true) Q σ w := by
  refine ⟨sw_mono NoPanic.imp (sw_any hm (sAny_of_J (J := J) (nj := fun d => !([] : List Nat).contains d) _ _ _ _ ?_))⟩
  simp only [permU, Bool.and_eq_true] at hB
  have hq : lift n (calm Q) = NoPanic (lift n Q) := by
    funext e a w
    cases e <;> simp [lift, calm, NoPanic]
  have hb : Below w.heap.size w { w with drawn := w.drawn + 1 } := drew_grown w
  have hs := wu_sound t _ σ _ hB.2 (h _ hb)
  rw [hq] at hs
  have key := treeU_any (P := P) (Q := NoPanic (lift n Q)) (md := .any) (J := J) (l := l) hB.1 (fun c a w h => by simp [NoPanic] at h) t (Array.replicate l.toArray.size false) (Fr n σ) { w with drawn := w.drawn + 1 } hB.2 (fun j oj _ hl => by rw [getD_replicate_false] at hl; cases hl) (hJ _ hb) hs
  have e : t.cnt = l.toArray.size := by simpa using Nat.eq_of_beq_eq_true hz
  rw [e] at key
  exact key
end Go.Gx
/-
  Queues: slices into a block of the call's own, at any offset; append goes on behind them.
-/
namespace Go.Gx
open Go Go.RowKit
set_option linter.unusedVariables false
set_option linter.unusedSimpArgs false

/-- Object o holds the cells of the queue l, whose header is v. -/
def Qu {α : Type} (D : Flat α) (T : TypeId) (o : Ob) (v : Value) (l : List α) : Prop :=
  (v = .slice none 0 0 ∧ l = [] ∧ o = .row (.slice none 0 0) T D.sz 0 []) ∨
  ∃ g off cap cur, v = .slice (some ⟨g, off, none⟩) l.length cap ∧ o = .var g T cur ∧ cap ≤ maxLen ∧ l.length ≤ cap ∧ off + cap * D.sz ≤ cur.length ∧ (cur.drop off).take (l.length * D.sz) = fl D l

theorem fl_getQ {α : Type} {D : Flat α} : ∀ {l : List α} {j : Nat} {x : α}, l[j]? = some x → ∀ {i : Nat} {u : Value}, (D.enc x)[i]? = some u → (fl D l)[j * D.sz + i]? = some u := by
  intro l
  induction l with
  | nil => intro j x hj; simp at hj
  | cons y r ih =>
    intro j x hj i u hu
    unfold fl
    rw [List.flatMap_cons]
    cases j with
    | zero =>
      simp at hj; subst hj
      rw [Nat.zero_mul, Nat.zero_add, List.getElem?_append_left (by rcases Nat.lt_or_ge i (D.enc y).length with h | h; exact h; rw [List.getElem?_eq_none h] at hu; cases hu)]; exact hu
    | succ j =>
      rw [List.getElem?_append_right (by rw [D.len, Nat.add_mul]; omega), D.len, show (j + 1) * D.sz + i - D.sz = j * D.sz + i by rw [Nat.add_mul]; omega]
      exact ih (by simpa using hj) hu

theorem Qu.nil {α : Type} (D : Flat α) (T : TypeId) : Qu D T (.row (.slice none 0 0) T D.sz 0 []) (.slice none 0 0) ([] : List α) := .inl ⟨rfl, rfl, rfl⟩
theorem Qu.len {α : Type} {D : Flat α} {T : TypeId} {o : Ob} {v : Value} {l : List α} (h : Qu D T o v l) : ∃ A c, v = .slice A l.length c := by
  rcases h with ⟨rfl, rfl, _⟩ | ⟨g, off, cap, cur, h, _⟩
  · exact ⟨_, _, rfl⟩
  · exact ⟨_, _, h⟩
theorem cur_get {cur : List Value} {off n : Nat} {xs : List Value} (h : (cur.drop off).take n = xs) {j : Nat} {u : Value} (hj : xs[j]? = some u) : cur[off + j]? = some u := by
  rw [← h, List.getElem?_take] at hj
  split at hj
  · rw [List.getElem?_drop] at hj; exact hj
  · cases hj
theorem Qu.cells {α : Type} {D : Flat α} {T : TypeId} {w0 w : World} {os : List Ob} {i : Nat} {g off cap : Nat} {cur : List Value} {l : List α} (S : St w0 w os) (hi : os[i]? = some (.var g T cur)) (h : (cur.drop off).take (l.length * D.sz) = fl D l) :
    ∀ j u, (fl D l)[j]? = some u → w.cell? ((⟨g, off, none⟩ : Addr).add j) = some u := fun j u hj => by
  have := (S.var hi).2.2 (off + j) u (cur_get h hj)
  rw [add_lit, Nat.zero_add] at this
  rw [add_lit]; exact this
theorem Qu.rd {α : Type} {D : Flat α} {T : TypeId} {o : Ob} {v : Value} {l : List α} (h : Qu D T o v l) {w0 w : World} {os : List Ob} {i : Nat} (S : St w0 w os) (hi : os[i]? = some o) : Rd D.ty w v l := by
  rcases h with ⟨rfl, rfl, _⟩ | ⟨g, off, cap, cur, rfl, rfl, hm, hc, hf, ht⟩
  · exact Rd.nil _ _
  · refine ⟨_, _, rfl, hc, .inr ⟨_, rfl, rfl, (S.var hi).1, fun j x hj => ⟨_, rfl, fun k u hu => Qu.cells (cap := cap) S hi ht _ u (fl_getQ hj hu)⟩⟩⟩

section
variable {P : Program} {ρ : Operand → Value} {w w0 : World} {d : Option Tmp} {ty : TypeId} {pos : String} {af : Array Edge} {g : Option (Nat × Bool)} {T T' : TypeId} {s t : Operand} {os : List Ob}
end
end Go.Gx
/-
  Slices of arrays; rows that grow ahead of being filled.
-/
namespace Go.Gx
open Go Go.RowKit
set_option linter.unusedVariables false
set_option linter.unusedSimpArgs false
section
variable {P : Program} {ρ : Operand → Value} {w w0 : World} {d : Option Tmp} {ty : TypeId} {pos : String} {af : Array Edge} {g : Option (Nat × Bool)} {T : TypeId} {s t : Operand} {os : List Ob}
/-- The first elements of an array. -/
theorem r_sliceArrHi {a : Addr} {n sz : Nat} {e : TypeId} {ag : Bool} {b : Operand} {k : IntKind} {hi : Int} [hT : IsArr P T n e] [hS : TF P e ag sz] (h1 : ρ s = .pointer (some a)) (h2 : ρ b = .int k hi) (h3 : 0 ≤ hi) (h4 : hi ≤ n) (h0 : 0 < n) :
    Runs P ρ ⟨d, .slice T s none (some b) none, ty, pos, af, g⟩ w (.ok (.value (.slice (some a) hi.toNat n)) w) := by
  refine ⟨?_⟩
  have hs' := hS.sizeOf w
  simp only [execOp, h1, h2, Instr.sliceAt, Option.map_none, Option.map_some]
  have : ¬ n = 0 := by omega
  simp [run_underlying' hT.out, Instr.sliceBounds, Instr.sliceBound, asIntOf, hs', Instr.sureAddr, this, add_zero, h3, h4]
/-- Cells of a variable read as a slice. -/
theorem Rd.ofCells {α : Type} {D : Flat α} {w : World} {b o c : Nat} {cs : List Value} {l : List α} (h : CellsAt w ⟨b, 0, none⟩ cs) (hc : l.length ≤ c) (hl : ∀ j u, (fl D l)[j]? = some u → cs[o + j]? = some u) : Rd D.ty w (.slice (some ⟨b, o, none⟩) l.length c) l := by
  refine ⟨_, _, rfl, hc, .inr ⟨_, rfl, rfl, h.1, fun j x hj => ⟨_, rfl, fun k u hu => ?_⟩⟩⟩
  have := h.2.2 (o + (j * D.sz + k)) u (hl _ u (fl_getQ hj hu))
  rw [add_lit, Nat.zero_add] at this
  rw [add_lit]; exact this
end
end Go.Gx
