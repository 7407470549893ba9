/-
  A drawn region with two writes in either order, writes behind them in order, and plain operations in any order at its end; loads float beside all of them.
-/
import Derived.Test.YteplelijhkmbkaaDoorGxJ
namespace Go.Gx
open Go Go.RowKit
set_option linter.unusedVariables false
set_option linter.unusedSimpArgs false
def sListJE (P : Program) (ops : Array Oper) (Q : Exit → Act → World → Prop) (J : World → Prop) (E : List Oper) : List Oper → Act → World → Prop
  | [], a, w => wpJ P ops J (fun a' => Q .normal a' w) E a
  | o :: rest, a, w => if Region.wanted o (yielded ops a.tmps) = true then Oper.sp P o a w (fun a' w' => J w' ∧ sListJE P ops Q J E rest a' w') Q else J w ∧ sListJE P ops Q J E rest (a.put o.dst undef) w
section
variable {P : Program} {ops : Array Oper} {Q : Exit → Act → World → Prop} {md : Region.Mode} {J : World → Prop}
def seqEB (md : Region.Mode) (ops : Array Oper) (es : List Nat) : List Nat → Array Bool → Bool
  | [], listed => headJB md ops [] [] es listed
  | k :: ks, listed => decide (Region.ready md ops listed = [k]) && seqEB md ops es ks (listed.setIfInBounds k true)
def headEB (md : Region.Mode) (ops : Array Oper) (x y : Nat) (ts es : List Nat) : List Nat → Array Bool → Bool
  | [], listed => decide (Region.ready md ops listed = [x, y]) && seqEB md ops es (y :: ts) (listed.setIfInBounds x true) && seqEB md ops es (x :: ts) (listed.setIfInBounds y true)
  | k :: ks, listed => (Region.ready md ops listed).contains k && Region.free md ops listed k && headEB md ops x y ts es ks (listed.setIfInBounds k true)
def permEB (md : Region.Mode) (ops : Array Oper) (hs : List Nat) (x y : Nat) (ts es : List Nat) : Bool := Region.noSelect ops && headEB md ops x y ts es hs (Array.replicate ops.size false)
theorem seqJE {l : List Oper} {es : List Nat} (hsel : Region.noSelect l.toArray = true) (hQ : ∀ c a w, ¬ Q (.panic c) a w) : ∀ (ks : List Nat) (listed : Array Bool) (a : Act) (w : World),
    seqEB md l.toArray es ks listed = true → ClosedG md l.toArray listed → J w → sListJE P l.toArray Q J (Pm.pk l es) (Pm.pk l ks) a w → sAnyJ P md l.toArray Q J (fun d => !([] : List Nat).contains d) (ks.length + es.length) listed a w
  | [], listed, a, w, hB, hc, hJ, h => by
    have := headJ (P := P) (Q := Q) (md := md) (J := J) (l := l) (ts := []) (us := []) hsel hQ es listed a w hB hc hJ h
    simpa using this
  | k :: ks, listed, a, w, hB, hc, hJ, h => by
    simp only [seqEB, Bool.and_eq_true, decide_eq_true_eq] at hB
    have e : (k :: ks).length + es.length = ks.length + es.length + 1 := by simp; omega
    rw [e]
    refine ⟨fun h1 => (by rw [hB.1] at h1; cases h1), fun i hi => ?_⟩
    have hi0 := hi
    obtain ⟨hun, o, h0, _⟩ := mem_ready.1 hi
    rw [hB.1] at hi
    have hik : i = k := by simpa using hi
    subst hik
    rw [show Pm.pk l (i :: ks) = o :: Pm.pk l ks by rw [Pm.pk, Pm.pk_get h0]] at h
    have hw : sOp P l.toArray Q i (fun a' w' => J w' ∧ sListJE P l.toArray Q J (Pm.pk l es) (Pm.pk l ks) a' w') a w := by unfold sOp; simp only [h0]; exact h
    exact sOp_mono (fun a' w' h' => ⟨fun _ => h'.1, seqJE hsel hQ ks _ a' w' hB.2 (hc.set hi0) h'.1 h'.2⟩) hw
theorem seqE2 {l : List Oper} {es ts : List Nat} {x y : Nat} (hsel : Region.noSelect l.toArray = true) (hQ : ∀ c a w, ¬ Q (.panic c) a w) (listed : Array Bool) (a : Act) (w : World)
    (hB : headEB md l.toArray x y ts es [] listed = true) (hc : ClosedG md l.toArray listed) (h : sListJE P l.toArray Q J (Pm.pk l es) (Pm.pk l (x :: y :: ts)) a w ∧ sListJE P l.toArray Q J (Pm.pk l es) (Pm.pk l (y :: x :: ts)) a w) : sAnyJ P md l.toArray Q J (fun d => !([] : List Nat).contains d) (ts.length + es.length + 2) listed a w := by
  simp only [headEB, Bool.and_eq_true, decide_eq_true_eq] at hB
  obtain ⟨⟨hr, h1⟩, h2⟩ := hB
  have e : ts.length + es.length + 2 = (ts.length + es.length + 1) + 1 := rfl
  rw [e]
  refine ⟨fun h1 => (by rw [hr] at h1; cases h1), fun i hi => ?_⟩
  have hi0 := hi
  obtain ⟨hun, o, h0, _⟩ := mem_ready.1 hi
  rw [hr] at hi
  have hlen : ∀ z : Nat, (z :: ts).length + es.length = ts.length + es.length + 1 := fun z => by simp; omega
  have hik : i = x ∨ i = y := by simpa using hi
  rcases hik with hik | hik
  · subst hik
    have h := h.1
    rw [Pm.pk, Pm.pk_get h0] at h
    have hw : sOp P l.toArray Q i (fun a' w' => J w' ∧ sListJE P l.toArray Q J (Pm.pk l es) (Pm.pk l (y :: ts)) a' w') a w := by unfold sOp; simp only [h0]; exact h
    exact sOp_mono (fun a' w' h' => ⟨fun _ => h'.1, by rw [← hlen y]; exact seqJE hsel hQ (y :: ts) _ a' w' h1 (hc.set hi0) h'.1 h'.2⟩) hw
  · subst hik
    have h := h.2
    rw [Pm.pk, Pm.pk_get h0] at h
    have hw : sOp P l.toArray Q i (fun a' w' => J w' ∧ sListJE P l.toArray Q J (Pm.pk l es) (Pm.pk l (x :: ts)) a' w') a w := by unfold sOp; simp only [h0]; exact h
    exact sOp_mono (fun a' w' h' => ⟨fun _ => h'.1, by rw [← hlen x]; exact seqJE hsel hQ (x :: ts) _ a' w' h2 (hc.set hi0) h'.1 h'.2⟩) hw
theorem headE {l : List Oper} {ts es : List Nat} {x y : Nat} (hsel : Region.noSelect l.toArray = true) (hQ : ∀ c a w, ¬ Q (.panic c) a w) :
    ∀ (ks : List Nat) (listed : Array Bool) (a : Act) (w : World), headEB md l.toArray x y ts es ks listed = true → ClosedG md l.toArray listed → J w →
    wpJ P l.toArray J (fun a' => sListJE P l.toArray Q J (Pm.pk l es) (Pm.pk l (x :: y :: ts)) a' w ∧ sListJE P l.toArray Q J (Pm.pk l es) (Pm.pk l (y :: x :: ts)) a' w) (Pm.pk l ks) a → sAnyJ P md l.toArray Q J (fun d => !([] : List Nat).contains d) (ks.length + (ts.length + es.length + 2)) listed a w
  | [], listed, a, w, hB, hc, hJ, h => by
    simp only [List.length_nil, Nat.zero_add]
    exact seqE2 hsel hQ listed a w hB hc h
  | k :: ks, listed, a, w, hB, hc, hJ, h => by
    simp only [headEB, Bool.and_eq_true] at hB
    obtain ⟨⟨hr, hf⟩, hB'⟩ := hB
    have hr' : k ∈ Region.ready md l.toArray listed := by simpa using hr
    obtain ⟨_, o, h0, _⟩ := mem_ready.1 hr'
    rw [show Pm.pk l (k :: ks) = o :: Pm.pk l ks by rw [Pm.pk, Pm.pk_get h0]] at h
    have hy : ∃ v, YieldsJ P l.toArray J o v a ∧ wpJ P l.toArray J (fun a' => sListJE P l.toArray Q J (Pm.pk l es) (Pm.pk l (x :: y :: ts)) a' w ∧ sListJE P l.toArray Q J (Pm.pk l es) (Pm.pk l (y :: x :: ts)) a' w) (Pm.pk l ks) (a.put o.dst v) := by
      unfold wpJ at h
      by_cases hw : Region.wanted o (yielded l.toArray a.tmps) = true
      · rw [if_pos hw] at h
        obtain ⟨v, h1, h2⟩ := h
        exact ⟨v, .inl ⟨hw, h1⟩, h2⟩
      · rw [if_neg hw] at h
        exact ⟨undef, .inr ⟨by simpa using hw, rfl⟩, h⟩
    obtain ⟨v, hy, hK⟩ := hy
    have hrec := headE hsel hQ ks _ (a.put o.dst v) w hB' (hc.set hr') hJ hK
    have e : (k :: ks).length + (ts.length + es.length + 2) = ks.length + (ts.length + es.length + 2) + 1 := by simp; omega
    rw [e]
    exact firstJ h0 (Region.noSelect_spec hsel) (fun c a w h => absurd h (hQ _ _ _)) (fun d hdu hds => by simp at hdu) _ listed a w (Region.free_spec h0 hf) hc hr' hy hJ hrec
end
/-- The writes, one behind the other, and the plain end. -/
structure we (P : Program) (n : Nat) (ops : Array Oper) (Q : Post) (J : World → Prop) (E l : List Oper) (σ : Nat → Value) (w : World) : Prop where mk :: (out : sListJE P ops (lift n Q) J E l (Fr n σ) w)
section
variable {P : Program} {n : Nat} {ops : Array Oper} {Q : Post} {J : World → Prop} {E rest : List Oper} {σ : Nat → Value} {w w' : World} {o : Oper} {v : Value}
theorem we_nil (h : jq P n ops J (fun σ' => Q .normal σ' w) E σ) : we P n ops Q J E [] σ w := by
  refine ⟨?_⟩
  have mono : ∀ (l' : List Oper) (a : Act), wpJ P ops J (fun a => ∃ σ', a = Fr n σ' ∧ Q .normal σ' w) l' a → wpJ P ops J (fun a' => lift n Q .normal a' w) l' a := by
    intro l'
    induction l' with
    | nil => rintro a ⟨σ', rfl, hh⟩; exact ⟨σ', rfl, hh⟩
    | cons o r ih =>
      intro a ha
      unfold wpJ at ha ⊢
      split
      · rename_i hw; rw [if_pos hw] at ha; obtain ⟨v, h1, h2⟩ := ha; exact ⟨v, h1, ih _ h2⟩
      · rename_i hw; rw [if_neg hw] at ha; exact ih _ ha
  exact mono _ _ h.out
theorem we_valE {R : Value → World → Prop} (hw : wantS o ops n σ = true) (h : ∃ v w', Runs P (opv (cut n σ)) o w (.ok (.value v) w') ∧ R v w') (k : ∀ v w', R v w' → J w' ∧ we P n ops Q J E rest (updO σ o.dst v) w') : we P n ops Q J E (o :: rest) σ w := by
  obtain ⟨v, w', hrun, hr⟩ := h
  refine ⟨?_⟩
  unfold sListJE
  rw [if_pos (by rw [yielded_eq]; exact hw)]
  left
  left
  unfold Oper.wp
  rw [Fr_eval, hrun.out, Oper.upon_value, Fr_put]
  exact ⟨(k v w' hr).1, (k v w' hr).2.out⟩
theorem we_callR {f : FuncId} {args : Array Value} {R : Value → World → Prop} (hw : wantS o ops n σ = true) (hrun : Runs P (opv (cut n σ)) o w (.ok (.enter f args) w)) (hc : CallsR P f args w R)
    (k : ∀ v w1, Below w.heap.size w w1 → R v w1 → J w1 ∧ we P n ops Q J E rest (updO σ o.dst v) w1) : we P n ops Q J E (o :: rest) σ w := by
  refine ⟨?_⟩
  unfold sListJE
  rw [if_pos (by rw [yielded_eq]; exact hw)]
  left
  left
  unfold Oper.wp
  rw [Fr_eval, hrun.out, Oper.upon_enter]
  refine hc.out.mono fun e w1 ⟨v, he, hb, hR⟩ => ?_
  subst he
  show J w1 ∧ sListJE P ops (lift n Q) J E rest ((Fr n σ).put o.dst v) w1
  rw [Fr_put]
  exact ⟨(k v w1 hb hR).1, (k v w1 hb hR).2.out⟩
end
theorem WP_drawE {P : Program} {n : Nat} {Q : Post} {σ : Nat → Value} {w : World} {id : Nat} {l : List Oper} (J : World → Prop) (hs : List Nat) (x y : Nat) (ts es : List Nat) (hm : P.follows .mixedOrders = true) (hz : Nat.beq (hs.length + (ts.length + es.length + 2)) l.length = true) (hB : permEB .any l.toArray hs x y ts es = true)
    (hJ : ∀ w', Below w.heap.size w w' → J w')
    (h : ∀ w', Below w.heap.size w w' → jq P n l.toArray J (fun σ' => we P n l.toArray (calm Q) J (Pm.pk l es) (Pm.pk l (x :: y :: ts)) σ' w' ∧ we P n l.toArray (calm Q) J (Pm.pk l es) (Pm.pk l (y :: x :: ts)) σ' w') (Pm.pk l hs) σ) : WP P n (.region id l.toArray true) Q σ w := by
  refine ⟨sw_mono NoPanic.imp (sw_any hm (sAny_of_J (J := J) (nj := fun d => !([] : List Nat).contains d) _ _ _ _ ?_))⟩
  simp only [permEB, Bool.and_eq_true] at hB
  have hq : lift n (calm Q) = NoPanic (lift n Q) := by
    funext e a w
    cases e <;> simp [lift, calm, NoPanic]
  have hb : Below w.heap.size w { w with drawn := w.drawn + 1 } := drew_grown w
  have key := headE (P := P) (Q := NoPanic (lift n Q)) (md := .any) (J := J) (l := l) (x := x) (y := y) (ts := ts) (es := es) hB.1 (fun c a w h => by simp [NoPanic] at h) hs (Array.replicate l.toArray.size false) (Fr n σ) { w with drawn := w.drawn + 1 } hB.2 (fun j oj _ hl => by rw [getD_replicate_false] at hl; cases hl) (hJ _ hb)
  have e : hs.length + (ts.length + es.length + 2) = l.toArray.size := by simpa using Nat.eq_of_beq_eq_true hz
  rw [e] at key
  refine key ?_
  have mono : ∀ (l' : List Oper) (a : Act), wpJ P l.toArray J (fun a => ∃ σ', a = Fr n σ' ∧ (we P n l.toArray (calm Q) J (Pm.pk l es) (Pm.pk l (x :: y :: ts)) σ' { w with drawn := w.drawn + 1 } ∧ we P n l.toArray (calm Q) J (Pm.pk l es) (Pm.pk l (y :: x :: ts)) σ' { w with drawn := w.drawn + 1 })) l' a →
      wpJ P l.toArray J (fun a' => sListJE P l.toArray (NoPanic (lift n Q)) J (Pm.pk l es) (Pm.pk l (x :: y :: ts)) a' { w with drawn := w.drawn + 1 } ∧ sListJE P l.toArray (NoPanic (lift n Q)) J (Pm.pk l es) (Pm.pk l (y :: x :: ts)) a' { w with drawn := w.drawn + 1 }) l' a := by
    intro l'
    induction l' with
    | nil => rintro a ⟨σ', rfl, hh⟩; rw [← hq]; exact ⟨hh.1.out, hh.2.out⟩
    | cons o r ih =>
      intro a ha
      unfold wpJ at ha ⊢
      split
      · rename_i hw; rw [if_pos hw] at ha; obtain ⟨v, h1, h2⟩ := ha; exact ⟨v, h1, ih _ h2⟩
      · rename_i hw; rw [if_neg hw] at ha; exact ih _ ha
  exact mono _ _ (h _ hb).out
end Go.Gx
