/-
  A region that draws its order: loads and values; then one operation that grows the world (a call); then values of a class of worlds, beside writes that stay in the class.
-/
import Derived.Test.YteplelijhkmbkaaDoorGxJ
namespace Go.Gx
open Go Go.RowKit Go.Gx
set_option linter.unusedVariables false
set_option linter.unusedSimpArgs false

section
variable {P : Program} {ops : Array Oper} {Q : Exit → Act → World → Prop} {md : Region.Mode} {J : World → Prop} {nj : Nat → Bool}
def headKB (md : Region.Mode) (ops : Array Oper) (k : Nat) (hs2 ts us : List Nat) : List Nat → Array Bool → Bool
  | [], listed => decide (Region.ready md ops listed = [k]) && headJB md ops ts us hs2 (listed.setIfInBounds k true)
  | i :: is, listed => (Region.ready md ops listed).contains i && Region.free md ops listed i && (us.all fun d => reachG md ops i ops.size d) && headKB md ops k hs2 ts us is (listed.setIfInBounds i true)
def permKB (md : Region.Mode) (ops : Array Oper) (hs : List Nat) (k : Nat) (hs2 ts us : List Nat) : Bool := Region.noSelect ops && headKB md ops k hs2 ts us hs (Array.replicate ops.size false)
def oneK (P : Program) (ops : Array Oper) (Q : Exit → Act → World → Prop) (J : World → Prop) (o : Oper) (K : Act → World → Prop) (a : Act) (w : World) : Prop :=
  if Region.wanted o (yielded ops a.tmps) = true then Oper.sp P o a w (fun a' w' => J w' ∧ K a' w') Q else J w ∧ K (a.put o.dst undef) w
theorem headK {l : List Oper} {hs2 ts us : List Nat} {k : Nat} {ok : Oper} (hk : l.toArray[k]? = some ok) (hsel : Region.noSelect l.toArray = true) (hQ : ∀ c a w, ¬ Q (.panic c) a w) :
    ∀ (is : List Nat) (listed : Array Bool) (a : Act) (w : World), headKB md l.toArray k hs2 ts us is listed = true → ClosedG md l.toArray listed → J w →
    wpJ P l.toArray J (fun a' => oneK P l.toArray Q J ok (fun a2 w2 => wpJ P l.toArray J (fun a3 => sListJ P l.toArray Q J (Pm.pk l us) (Pm.pk l ts) a3 w2) (Pm.pk l hs2) a2) a' w) (Pm.pk l is) a →
    sAnyJ P md l.toArray Q J (fun d => !us.contains d) (is.length + (1 + (hs2.length + (ts.length + us.length)))) listed a w
  | [], listed, a, w, hB, hc, hJ, h => by
    simp only [headKB, Bool.and_eq_true, decide_eq_true_eq] at hB
    have e : ([] : List Nat).length + (1 + (hs2.length + (ts.length + us.length))) = hs2.length + (ts.length + us.length) + 1 := by simp; omega
    rw [e]
    have hr : k ∈ Region.ready md l.toArray listed := by rw [hB.1]; exact List.mem_singleton.2 rfl
    refine ⟨fun h1 => (by rw [hB.1] at h1; cases h1), fun i hi => ?_⟩
    rw [hB.1] at hi
    have hik : i = k := List.mem_singleton.1 hi
    subst hik
    have h' : oneK P l.toArray Q J ok (fun a2 w2 => wpJ P l.toArray J (fun a3 => sListJ P l.toArray Q J (Pm.pk l us) (Pm.pk l ts) a3 w2) (Pm.pk l hs2) a2) a w := h
    have hw : sOp P l.toArray Q i (fun a' w' => J w' ∧ wpJ P l.toArray J (fun a3 => sListJ P l.toArray Q J (Pm.pk l us) (Pm.pk l ts) a3 w') (Pm.pk l hs2) a') a w := by
      unfold sOp; simp only [hk]; exact h'
    exact sOp_mono (fun a' w' h2 => ⟨fun _ => h2.1, headJ hsel hQ hs2 _ a' w' hB.2 (hc.set hr) h2.1 h2.2⟩) hw
  | i :: is, listed, a, w, hB, hc, hJ, h => by
    simp only [headKB, Bool.and_eq_true] at hB
    obtain ⟨⟨⟨hr, hf⟩, hd⟩, hB'⟩ := hB
    have hr' : i ∈ Region.ready md l.toArray listed := by simpa using hr
    obtain ⟨_, o, h0, _⟩ := mem_ready.1 hr'
    rw [Pm.pk, Pm.pk_get h0] at h
    have hy : ∃ v, YieldsJ P l.toArray J o v a ∧ wpJ P l.toArray J (fun a' => oneK P l.toArray Q J ok (fun a2 w2 => wpJ P l.toArray J (fun a3 => sListJ P l.toArray Q J (Pm.pk l us) (Pm.pk l ts) a3 w2) (Pm.pk l hs2) a2) a' w) (Pm.pk l is) (a.put o.dst v) := by
      unfold wpJ at h
      by_cases hw : Region.wanted o (yielded l.toArray a.tmps) = true
      · rw [if_pos hw] at h
        obtain ⟨v, h1, h2⟩ := h
        exact ⟨v, .inl ⟨hw, h1⟩, h2⟩
      · rw [if_neg hw] at h
        exact ⟨undef, .inr ⟨by simpa using hw, rfl⟩, h⟩
    obtain ⟨v, hy, hK⟩ := hy
    have hrec := headK hk hsel hQ is _ (a.put o.dst v) w hB' (hc.set hr') hJ hK
    have e : (i :: is).length + (1 + (hs2.length + (ts.length + us.length))) = is.length + (1 + (hs2.length + (ts.length + us.length))) + 1 := by simp; omega
    rw [e]
    exact firstJ h0 (Region.noSelect_spec hsel) (fun c a w h => absurd h (hQ _ _ _)) (fun d hdu hds => List.all_eq_true.1 hd d (by simpa using hdu)) _ listed a w (Region.free_spec h0 hf) hc hr' hy hJ hrec
end
/-- The one operation that grows the world. -/
structure kq (P : Program) (n : Nat) (ops : Array Oper) (Q : Post) (J : World → Prop) (o : Oper) (K : (Nat → Value) → World → Prop) (σ : Nat → Value) (w : World) : Prop where mk :: (out : oneK P ops (lift n Q) J o (fun a w => ∃ σ', a = Fr n σ' ∧ K σ' w) (Fr n σ) w)
theorem kq_callV {P : Program} {n : Nat} {ops : Array Oper} {Q : Post} {J : World → Prop} {o : Oper} {K : (Nat → Value) → World → Prop} {σ : Nat → Value} {w : World} {v : Value} {f : FuncId} {args : Array Value} (hw : wantS o ops n σ = true) (hrun : Runs P (opv (cut n σ)) o w (.ok (.enter f args) w)) (hc : CallsV P f args w v)
    (k : ∀ w1, Below w.heap.size w w1 → J w1 ∧ K (updO σ o.dst v) w1) : kq P n ops Q J o K σ w := by
  refine ⟨?_⟩
  unfold oneK
  rw [if_pos (by rw [yielded_eq]; exact hw)]
  left
  left
  unfold Oper.wp
  rw [Fr_eval, hrun.out, Oper.upon_enter]
  refine Calls.mono hc.out fun e w1 ⟨he, hb⟩ => ?_
  subst he
  exact ⟨(k w1 hb).1, updO σ o.dst v, by rw [Fr_put], (k w1 hb).2⟩
theorem WP_drawK {P : Program} {n : Nat} {Q : Post} {σ : Nat → Value} {w : World} {id : Nat} {l : List Oper} (J : World → Prop) (hs : List Nat) (k : Nat) (hs2 ts us : List Nat) (ok : Oper) (hk : l.toArray[k]? = some ok) (hm : P.follows .mixedOrders = true) (hz : Nat.beq (hs.length + (1 + (hs2.length + (ts.length + us.length)))) l.length = true) (hB : permKB .any l.toArray hs k hs2 ts us = true)
    (hJ : ∀ w', Below w.heap.size w w' → J w')
    (h : ∀ w', Below w.heap.size w w' → jq P n l.toArray J (fun σ' => kq P n l.toArray (calm Q) J ok (fun σ2 w2 => jq P n l.toArray J (fun σ3 => wj P n l.toArray (calm Q) J (Pm.pk l us) (Pm.pk l ts) σ3 w2) (Pm.pk l hs2) σ2) σ' w') (Pm.pk l hs) σ) : WP P n (.region id l.toArray true) Q σ w := by
  refine ⟨sw_mono NoPanic.imp (sw_any hm (sAny_of_J (J := J) (nj := fun d => !us.contains d) _ _ _ _ ?_))⟩
  simp only [permKB, Bool.and_eq_true] at hB
  have hq : lift n (calm Q) = NoPanic (lift n Q) := by
    funext e a w
    cases e <;> simp [lift, calm, NoPanic]
  have hb : Below w.heap.size w { w with drawn := w.drawn + 1 } := drew_grown w
  have key := headK (P := P) (Q := NoPanic (lift n Q)) (md := .any) (J := J) (l := l) (hs2 := hs2) (ts := ts) (us := us) hk hB.1 (fun c a w h => by simp [NoPanic] at h) hs (Array.replicate l.toArray.size false) (Fr n σ) { w with drawn := w.drawn + 1 } hB.2 (fun j oj _ hl => by rw [getD_replicate_false] at hl; cases hl) (hJ _ hb)
  have e : hs.length + (1 + (hs2.length + (ts.length + us.length))) = l.toArray.size := by simpa using Nat.eq_of_beq_eq_true hz
  rw [e] at key
  refine key ?_
  have mono2 : ∀ (w2 : World) (l' : List Oper) (a : Act), wpJ P l.toArray J (fun a => ∃ σ', a = Fr n σ' ∧ wj P n l.toArray (calm Q) J (Pm.pk l us) (Pm.pk l ts) σ' w2) l' a →
      wpJ P l.toArray J (fun a' => sListJ P l.toArray (NoPanic (lift n Q)) J (Pm.pk l us) (Pm.pk l ts) a' w2) l' a := by
    intro w2 l'
    induction l' with
    | nil => rintro a ⟨σ', rfl, hh⟩; rw [← hq]; exact hh.out
    | cons o r ih =>
      intro a ha
      unfold wpJ at ha ⊢
      split
      · rename_i hw; rw [if_pos hw] at ha; obtain ⟨v, h1, h2⟩ := ha; exact ⟨v, h1, ih _ h2⟩
      · rename_i hw; rw [if_neg hw] at ha; exact ih _ ha
  have one : ∀ (σ' : Nat → Value) (w' : World), kq P n l.toArray (calm Q) J ok (fun σ2 w2 => jq P n l.toArray J (fun σ3 => wj P n l.toArray (calm Q) J (Pm.pk l us) (Pm.pk l ts) σ3 w2) (Pm.pk l hs2) σ2) σ' w' →
      oneK P l.toArray (NoPanic (lift n Q)) J ok (fun a2 w2 => wpJ P l.toArray J (fun a3 => sListJ P l.toArray (NoPanic (lift n Q)) J (Pm.pk l us) (Pm.pk l ts) a3 w2) (Pm.pk l hs2) a2) (Fr n σ') w' := by
    intro σ' w' hh
    have h1 := hh.out
    rw [hq] at h1
    have h2 : sOp P l.toArray (NoPanic (lift n Q)) k (fun a w => J w ∧ ∃ σ2, a = Fr n σ2 ∧ jq P n l.toArray J (fun σ3 => wj P n l.toArray (calm Q) J (Pm.pk l us) (Pm.pk l ts) σ3 w) (Pm.pk l hs2) σ2) (Fr n σ') w' := by
      unfold sOp; simp only [hk]; exact h1
    have h3 := sOp_mono (fun a' w'' ⟨hj, σ2, ha, h2⟩ => (show J w'' ∧ wpJ P l.toArray J (fun a3 => sListJ P l.toArray (NoPanic (lift n Q)) J (Pm.pk l us) (Pm.pk l ts) a3 w'') (Pm.pk l hs2) a' from ⟨hj, by subst ha; exact mono2 _ _ _ h2.out⟩)) h2
    unfold sOp at h3
    simp only [hk] at h3
    exact h3
  have mono : ∀ (l' : List Oper) (a : Act) (w' : World), wpJ P l.toArray J (fun a => ∃ σ', a = Fr n σ' ∧ kq P n l.toArray (calm Q) J ok (fun σ2 w2 => jq P n l.toArray J (fun σ3 => wj P n l.toArray (calm Q) J (Pm.pk l us) (Pm.pk l ts) σ3 w2) (Pm.pk l hs2) σ2) σ' w') l' a →
      wpJ P l.toArray J (fun a' => oneK P l.toArray (NoPanic (lift n Q)) J ok (fun a2 w2 => wpJ P l.toArray J (fun a3 => sListJ P l.toArray (NoPanic (lift n Q)) J (Pm.pk l us) (Pm.pk l ts) a3 w2) (Pm.pk l hs2) a2) a' w') l' a := by
    intro l'
    induction l' with
    | nil => rintro a w' ⟨σ', rfl, hh⟩; exact one _ _ hh
    | cons o r ih =>
      intro a w' ha
      unfold wpJ at ha ⊢
      split
      · rename_i hw; rw [if_pos hw] at ha; obtain ⟨v, h1, h2⟩ := ha; exact ⟨v, h1, ih _ _ h2⟩
      · rename_i hw; rw [if_neg hw] at ha; exact ih _ _ ha
  exact mono _ _ _ (h _ hb).out
end Go.Gx
