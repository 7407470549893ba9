/- Merged texts: GxJ5, GxRange, GxJ6, GxQue, GxArr. -/
import Derived.Test.YtijnbpnficcpmaaDoorMG1
import Derived.RangeFuncLeaves
import Derived.RangeFuncOwn
import Derived.ArgAppend
set_option linter.unusedVariables false
set_option linter.unusedSimpArgs false
namespace Go.Gx
open Go Go.RowKit Go.Gx

inductive OT
  | fin
  | one (k : Nat) (t : OT)
  | two (x : Nat) (tx : OT) (y : Nat) (ty : OT)
def OT.cnt : OT → Nat
  | .fin => 0
  | .one _ t => t.cnt + 1
  | .two _ tx _ _ => tx.cnt + 1
section
variable {P : Program} {ops : Array Oper} {Q : Exit → Act → World → Prop} {md : Region.Mode} {J : World → Prop}
def Zb9 (md : Region.Mode) (ops : Array Oper) (es : List Nat) : OT → Array Bool → Bool
  | .fin, listed => Z9f md ops [] [] es listed
  | .one k t, listed => decide (Region.ready md ops listed = [k]) && Zb9 md ops es t (listed.setIfInBounds k true)
  | .two x tx y ty, listed => decide (Region.ready md ops listed = [x, y]) && Nat.beq tx.cnt ty.cnt && Zb9 md ops es tx (listed.setIfInBounds x true) && Zb9 md ops es ty (listed.setIfInBounds y true)
def Zc8 (md : Region.Mode) (ops : Array Oper) (t : OT) (es : List Nat) : List Nat → Array Bool → Bool
  | [], listed => Zb9 md ops es t listed
  | k :: ks, listed => (Region.ready md ops listed).contains k && Region.free md ops listed k && Zc8 md ops t es ks (listed.setIfInBounds k true)
def permTB (md : Region.Mode) (ops : Array Oper) (hs : List Nat) (t : OT) (es : List Nat) : Bool := Region.noSelect ops && Zc8 md ops t es hs (Array.replicate ops.size false)
def Z83 (P : Program) (Q : Exit → Act → World → Prop) (J : World → Prop) (l : List Oper) (es : List Nat) : OT → Act → World → Prop
  | .fin, a, w => wpJ P l.toArray J (fun a' => Q .normal a' w) (Pm.pk l es) a
  | .one k t, a, w => oneK P l.toArray Q J (l.getD k Pm.dflt) (Z83 P Q J l es t) a w
  | .two x tx y ty, a, w => oneK P l.toArray Q J (l.getD x Pm.dflt) (Z83 P Q J l es tx) a w ∧ oneK P l.toArray Q J (l.getD y Pm.dflt) (Z83 P Q J l es ty) a w
theorem Za6 {l : List Oper} {es : List Nat} (hsel : Region.noSelect l.toArray = true) (hQ : ∀ c a w, ¬ Q (.panic c) a w) : ∀ (t : OT) (listed : Array Bool) (a : Act) (w : World),
    Zb9 md l.toArray es t listed = true → Z3p md l.toArray listed → J w → Z83 P Q J l es t a w → Z6n P md l.toArray Q J (fun d => !([] : List Nat).contains d) (t.cnt + es.length) listed a w
  | .fin, listed, a, w, hB, hc, hJ, h => by
    have := Ziz (P := P) (Q := Q) (md := md) (J := J) (l := l) (ts := []) (us := []) hsel hQ es listed a w hB hc hJ h
    simpa [OT.cnt] using this
  | .one k t, listed, a, w, hB, hc, hJ, h => by
    simp only [Zb9, Bool.and_eq_true, decide_eq_true_eq] at hB
    have e : (OT.one k t).cnt + es.length = t.cnt + es.length + 1 := by simp only [OT.cnt]; omega
    rw [e]
    refine ⟨fun h1 => (by rw [hB.1] at h1; cases h1), fun i hi => ?_⟩
    have hi0 := hi
    obtain ⟨hun, o, h0, _⟩ := mem_ready.1 hi
    rw [hB.1] at hi
    have hik : i = k := by simpa using hi
    subst hik
    have h' : oneK P l.toArray Q J (l.getD i Pm.dflt) (Z83 P Q J l es t) a w := h
    rw [Pm.pk_get h0] at h'
    have hw : sOp P l.toArray Q i (fun a' w' => J w' ∧ Z83 P Q J l es t a' w') a w := by unfold sOp; simp only [h0]; exact h'
    exact Z37 (fun a' w' h' => ⟨fun _ => h'.1, Za6 hsel hQ t _ a' w' hB.2 (hc.set hi0) h'.1 h'.2⟩) hw
  | .two x tx y ty, listed, a, w, hB, hc, hJ, h => by
    simp only [Zb9, Bool.and_eq_true, decide_eq_true_eq] at hB
    obtain ⟨⟨⟨hr, hcnt⟩, h1⟩, h2⟩ := hB
    have hce := Nat.eq_of_beq_eq_true hcnt
    have e : (OT.two x tx y ty).cnt + es.length = tx.cnt + es.length + 1 := by simp only [OT.cnt]; omega
    rw [e]
    refine ⟨fun h1 => (by rw [hr] at h1; cases h1), fun i hi => ?_⟩
    have hi0 := hi
    obtain ⟨hun, o, h0, _⟩ := mem_ready.1 hi
    rw [hr] at hi
    have hik : i = x ∨ i = y := by simpa using hi
    rcases hik with hik | hik
    · subst hik
      have h' : oneK P l.toArray Q J (l.getD i Pm.dflt) (Z83 P Q J l es tx) a w := h.1
      rw [Pm.pk_get h0] at h'
      have hw : sOp P l.toArray Q i (fun a' w' => J w' ∧ Z83 P Q J l es tx a' w') a w := by unfold sOp; simp only [h0]; exact h'
      exact Z37 (fun a' w' h' => ⟨fun _ => h'.1, Za6 hsel hQ tx _ a' w' h1 (hc.set hi0) h'.1 h'.2⟩) hw
    · subst hik
      have h' : oneK P l.toArray Q J (l.getD i Pm.dflt) (Z83 P Q J l es ty) a w := h.2
      rw [Pm.pk_get h0] at h'
      have hw : sOp P l.toArray Q i (fun a' w' => J w' ∧ Z83 P Q J l es ty a' w') a w := by unfold sOp; simp only [h0]; exact h'
      rw [hce]
      exact Z37 (fun a' w' h' => ⟨fun _ => h'.1, Za6 hsel hQ ty _ a' w' h2 (hc.set hi0) h'.1 h'.2⟩) hw
theorem headT {l : List Oper} {t : OT} {es : List Nat} (hsel : Region.noSelect l.toArray = true) (hQ : ∀ c a w, ¬ Q (.panic c) a w) :
    ∀ (ks : List Nat) (listed : Array Bool) (a : Act) (w : World), Zc8 md l.toArray t es ks listed = true → Z3p md l.toArray listed → J w →
    wpJ P l.toArray J (fun a' => Z83 P Q J l es t a' w) (Pm.pk l ks) a → Z6n P md l.toArray Q J (fun d => !([] : List Nat).contains d) (ks.length + (t.cnt + es.length)) listed a w
  | [], listed, a, w, hB, hc, hJ, h => by
    simp only [List.length_nil, Nat.zero_add]
    exact Za6 hsel hQ t listed a w hB hc hJ h
  | k :: ks, listed, a, w, hB, hc, hJ, h => by
    simp only [Zc8, Bool.and_eq_true] at hB
    obtain ⟨⟨hr, hf⟩, hB'⟩ := hB
    have hr' : k ∈ Region.ready md l.toArray listed := by simpa using hr
    obtain ⟨_, o, h0, _⟩ := mem_ready.1 hr'
    rw [show Pm.pk l (k :: ks) = o :: Pm.pk l ks by rw [Pm.pk, Pm.pk_get h0]] at h
    have hy : ∃ v, Z48 P l.toArray J o v a ∧ wpJ P l.toArray J (fun a' => Z83 P Q J l es t a' w) (Pm.pk l ks) (a.put o.dst v) := by
      unfold wpJ at h
      by_cases hw : Region.wanted o (yielded l.toArray a.tmps) = true
      · rw [if_pos hw] at h
        obtain ⟨v, h1, h2⟩ := h
        exact ⟨v, .inl ⟨hw, h1⟩, h2⟩
      · rw [if_neg hw] at h
        exact ⟨undef, .inr ⟨by simpa using hw, rfl⟩, h⟩
    obtain ⟨v, hy, hK⟩ := hy
    have hrec := headT hsel hQ ks _ (a.put o.dst v) w hB' (hc.set hr') hJ hK
    have e : (k :: ks).length + (t.cnt + es.length) = ks.length + (t.cnt + es.length) + 1 := by simp; omega
    rw [e]
    exact Zgg h0 (Region.noSelect_spec hsel) (fun c a w h => absurd h (hQ _ _ _)) (fun d hdu hds => by simp at hdu) _ listed a w (Region.free_spec h0 hf) hc hr' hy hJ hrec
end
def wt (P : Program) (n : Nat) (Q : Post) (J : World → Prop) (l : List Oper) (es : List Nat) : OT → (Nat → Value) → World → Prop
  | .fin, σ, w => jq P n l.toArray J (fun σ' => Q .normal σ' w) (Pm.pk l es) σ
  | .one k t, σ, w => kq P n l.toArray Q J (l.getD k Pm.dflt) (wt P n Q J l es t) σ w
  | .two x tx y ty, σ, w => kq P n l.toArray Q J (l.getD x Pm.dflt) (wt P n Q J l es tx) σ w ∧ kq P n l.toArray Q J (l.getD y Pm.dflt) (wt P n Q J l es ty) σ w
theorem Z8n {P : Program} {ops : Array Oper} {Q : Exit → Act → World → Prop} {J : World → Prop} {o : Oper} {K K' : Act → World → Prop} {a : Act} {w : World} {i : Nat} (hi : ops[i]? = some o) (hK : ∀ a w, K a w → K' a w) (h : oneK P ops Q J o K a w) : oneK P ops Q J o K' a w := by
  have h2 : sOp P ops Q i (fun a w => J w ∧ K a w) a w := by unfold sOp; simp only [hi]; exact h
  have h3 := Z37 (fun a' w' (⟨hj, hk⟩ : J w' ∧ K a' w') => (⟨hj, hK _ _ hk⟩ : J w' ∧ K' a' w')) h2
  unfold sOp at h3
  simp only [hi] at h3
  exact h3
theorem Za7 {P : Program} {n : Nat} {Q : Post} {J : World → Prop} {l : List Oper} {es : List Nat} : ∀ (t : OT) (listed : Array Bool) (σ : Nat → Value) (w : World), Zb9 .any l.toArray es t listed = true → wt P n Q J l es t σ w → Z83 P (lift n Q) J l es t (Fr n σ) w
  | .fin, listed, σ, w, _, h => by
    have mono : ∀ (l' : List Oper) (a : Act), wpJ P l.toArray J (fun a => ∃ σ', a = Fr n σ' ∧ Q .normal σ' w) l' a → wpJ P l.toArray J (fun a' => lift n Q .normal a' w) l' a := by
      intro l'
      induction l' with
      | nil => rintro a ⟨σ', rfl, hh⟩; exact ⟨σ', rfl, hh⟩
      | cons o r ih =>
        intro a ha
        unfold wpJ at ha ⊢
        split
        · rename_i hw; rw [if_pos hw] at ha; obtain ⟨v, h1, h2⟩ := ha; exact ⟨v, h1, ih _ h2⟩
        · rename_i hw; rw [if_neg hw] at ha; exact ih _ ha
    exact mono _ _ (show jq P n l.toArray J (fun σ' => Q .normal σ' w) (Pm.pk l es) σ from h).out
  | .one k t, listed, σ, w, hB, h => by
    simp only [Zb9, Bool.and_eq_true, decide_eq_true_eq] at hB
    obtain ⟨_, o, h0, _⟩ := mem_ready.1 (by rw [hB.1]; exact List.mem_singleton.2 rfl : k ∈ Region.ready .any l.toArray listed)
    have h' := (show kq P n l.toArray Q J (l.getD k Pm.dflt) (wt P n Q J l es t) σ w from h).out
    show oneK P l.toArray (lift n Q) J (l.getD k Pm.dflt) (Z83 P (lift n Q) J l es t) (Fr n σ) w
    rw [Pm.pk_get h0] at h' ⊢
    exact Z8n h0 (fun a w ⟨σ', e, h2⟩ => by rw [e]; exact Za7 t _ σ' w hB.2 h2) h'
  | .two x tx y ty, listed, σ, w, hB, h => by
    simp only [Zb9, Bool.and_eq_true, decide_eq_true_eq] at hB
    obtain ⟨⟨⟨hr, _⟩, b1⟩, b2⟩ := hB
    obtain ⟨_, o, h0, _⟩ := mem_ready.1 (by rw [hr]; simp : x ∈ Region.ready .any l.toArray listed)
    obtain ⟨_, o2, h02, _⟩ := mem_ready.1 (by rw [hr]; simp : y ∈ Region.ready .any l.toArray listed)
    have h1 := (show kq P n l.toArray Q J (l.getD x Pm.dflt) (wt P n Q J l es tx) σ w ∧ kq P n l.toArray Q J (l.getD y Pm.dflt) (wt P n Q J l es ty) σ w from h).1.out
    have h2 := (show kq P n l.toArray Q J (l.getD x Pm.dflt) (wt P n Q J l es tx) σ w ∧ kq P n l.toArray Q J (l.getD y Pm.dflt) (wt P n Q J l es ty) σ w from h).2.out
    refine ⟨?_, ?_⟩
    · rw [Pm.pk_get h0] at h1 ⊢
      exact Z8n h0 (fun a w ⟨σ', e, h2⟩ => by rw [e]; exact Za7 tx _ σ' w b1 h2) h1
    · rw [Pm.pk_get h02] at h2 ⊢
      exact Z8n h02 (fun a w ⟨σ', e, h2⟩ => by rw [e]; exact Za7 ty _ σ' w b2 h2) h2
section
variable {P : Program} {n : Nat} {ops : Array Oper} {Q : Post} {J : World → Prop} {o : Oper} {K : (Nat → Value) → World → Prop} {σ : Nat → Value} {w : World} {v : Value} {l : List Oper} {es : List Nat}
theorem Zjy (h : jq P n l.toArray J (fun σ' => Q .normal σ' w) (Pm.pk l es) σ) : wt P n Q J l es .fin σ w := h
theorem Zgx {k : Nat} {t : OT} (h : kq P n l.toArray Q J (l.getD k Pm.dflt) (wt P n Q J l es t) σ w) : wt P n Q J l es (.one k t) σ w := h
theorem wt_two {x y : Nat} {tx ty : OT} (h1 : kq P n l.toArray Q J (l.getD x Pm.dflt) (wt P n Q J l es tx) σ w) (h2 : kq P n l.toArray Q J (l.getD y Pm.dflt) (wt P n Q J l es ty) σ w) : wt P n Q J l es (.two x tx y ty) σ w := ⟨h1, h2⟩
theorem Z2i {R : Value → World → Prop} (hw : Z3w o ops n σ = true) (h : ∃ v w', Runs P (opv (cut n σ)) o w (.ok (.value v) w') ∧ R v w') (k : ∀ v w', R v w' → J w' ∧ K (updO σ o.dst v) w') : kq P n ops Q J o K σ w := by
  obtain ⟨v, w', hrun, hr⟩ := h
  refine ⟨?_⟩
  unfold oneK
  rw [if_pos (by rw [Z2p]; exact hw)]
  left
  left
  unfold Oper.wp
  rw [Z3n, hrun.out, Oper.upon_value, Z4f]
  exact ⟨(k v w' hr).1, _, rfl, (k v w' hr).2⟩
theorem Z3q {f : FuncId} {args : Array Value} {R : Value → World → Prop} (hw : Z3w o ops n σ = true) (hrun : Runs P (opv (cut n σ)) o w (.ok (.enter f args) w)) (hc : CallsR P f args w R)
    (k : ∀ v w1, Below w.heap.size w w1 → R v w1 → J w1 ∧ K (updO σ o.dst v) w1) : kq P n ops Q J o K σ w := by
  refine ⟨?_⟩
  unfold oneK
  rw [if_pos (by rw [Z2p]; exact hw)]
  left
  left
  unfold Oper.wp
  rw [Z3n, hrun.out, Oper.upon_enter]
  refine Calls.mono hc.out fun e w1 ⟨v, he, hb, hR⟩ => ?_
  subst he
  exact ⟨(k v w1 hb hR).1, updO σ o.dst v, by rw [Z4f], (k v w1 hb hR).2⟩
end
theorem WP_drawT {P : Program} {n : Nat} {Q : Post} {σ : Nat → Value} {w : World} {id : Nat} {l : List Oper} (J : World → Prop) (hs : List Nat) (t : OT) (es : List Nat) (hm : P.follows .mixedOrders = true) (hz : Nat.beq (hs.length + (t.cnt + es.length)) l.length = true) (hB : permTB .any l.toArray hs t es = true)
    (hJ : ∀ w', Below w.heap.size w w' → J w')
    (h : ∀ w', Below w.heap.size w w' → jq P n l.toArray J (fun σ' => wt P n (calm Q) J l es t σ' w') (Pm.pk l hs) σ) : WP P n (.region id l.toArray true) Q σ w := by
  refine ⟨Z41 NoPanic.imp (Zbx hm (Z6r (J := J) (nj := fun d => !([] : List Nat).contains d) _ _ _ _ ?_))⟩
  simp only [permTB, Bool.and_eq_true] at hB
  have hq : lift n (calm Q) = NoPanic (lift n Q) := by
    funext e a w
    cases e <;> simp [lift, calm, NoPanic]
  have hb : Below w.heap.size w { w with drawn := w.drawn + 1 } := Z4s w
  have key := headT (P := P) (Q := NoPanic (lift n Q)) (md := .any) (J := J) (l := l) (t := t) (es := es) hB.1 (fun c a w h => by simp [NoPanic] at h) hs (Array.replicate l.toArray.size false) (Fr n σ) { w with drawn := w.drawn + 1 } hB.2 (fun j oj _ hl => by rw [getD_replicate_false] at hl; cases hl) (hJ _ hb)
  have e : hs.length + (t.cnt + es.length) = l.toArray.size := by simpa using Nat.eq_of_beq_eq_true hz
  rw [e] at key
  refine key ?_
  have last : ∀ (ks : List Nat) (listed : Array Bool), Zc8 .any l.toArray t es ks listed = true → ∃ listed', Zb9 .any l.toArray es t listed' = true := by
    intro ks
    induction ks with
    | nil => intro listed h; exact ⟨listed, h⟩
    | cons k ks ih => intro listed h; simp only [Zc8, Bool.and_eq_true] at h; exact ih _ h.2
  obtain ⟨listed', hl'⟩ := last hs _ hB.2
  have mono : ∀ (l' : List Oper) (a : Act), wpJ P l.toArray J (fun a => ∃ σ', a = Fr n σ' ∧ wt P n (calm Q) J l es t σ' { w with drawn := w.drawn + 1 }) l' a →
      wpJ P l.toArray J (fun a' => Z83 P (NoPanic (lift n Q)) J l es t a' { w with drawn := w.drawn + 1 }) l' a := by
    intro l'
    induction l' with
    | nil => rintro a ⟨σ', rfl, hh⟩; rw [← hq]; exact Za7 t listed' σ' _ hl' hh
    | cons o r ih =>
      intro a ha
      unfold wpJ at ha ⊢
      split
      · rename_i hw; rw [if_pos hw] at ha; obtain ⟨v, h1, h2⟩ := ha; exact ⟨v, h1, ih _ h2⟩
      · rename_i hw; rw [if_neg hw] at ha; exact ih _ ha
  exact mono _ _ (h _ hb).out
end Go.Gx
namespace Go.Gx
open Go Go.RowKit

theorem St.rawAt {w0 w : World} {os : List Ob} (S : St w0 w os) {i b : Nat} {o : Obj} (hi : os[i]? = some (.raw b o)) : w.heap[b]? = some o := (S.ok _ (Z2m hi)).2
theorem St.putRaw {w0 w : World} {os : List Ob} (S : St w0 w os) {i b : Nat} {o : Obj} (o' : Obj) (hi : os[i]? = some (.raw b o)) : St w0 (w.putObj b o') (os.set i (.raw b o')) := by
  have h := S.ok _ (Z2m hi)
  exact S.write hi (grownBy_putObj' w b o') ⟨h.1, World.putObj_heap_same (Z5n h.2)⟩ (.inl rfl)
theorem St.newRaw {w0 w : World} {os : List Ob} (S : St w0 w os) (o : Obj) : St w0 (w.alloc o) (.raw w.heap.size o :: os) :=
  (S.new (o := .raw w.heap.size o) (Z34 w o) ⟨Nat.le_refl _, World.alloc_heap_new w o⟩).front

abbrev recL (fn : FuncId) (tmps : Array Value) (ps : Array Tmp) (assign body : Code) (Dk : Nat) : Loop := { state := .ready, pending := none, fn := fn, tmps := tmps, params := ps, assign := assign, body := body, defers := Dk }
abbrev recJ (r : Loop) (jump : Option Code) : Loop := { r with state := if jump.isNone then .ready else .done, pending := jump }
def jumpOf : Exit → Option (Option Code)
  | .normal => some none
  | .ret => some (some .ret)
  | .exit id => some (some (.exit id))
  | _ => none

theorem round_WP {P : Program} {n L : Nat} {r : Loop} {w0 w : World} {os : List Ob} {σ1 : Nat → Value} {tmps : Array Value} {R : Value → World → Prop} (S : St w0 w (.raw L (.loop r) :: os)) (hr : r.state = .ready) (hd1 : Z3x r.assign = true) (hd2 : Z3x r.body = true)
    (ht : tmps = (Fr n σ1).tmps)
    (h : WP P n r.assign (fun e σ2 w2 => e = .normal ∧ ∃ os2, St w0 w2 (.raw L (.loop r) :: os2) ∧ ∀ w3, St w0 w3 (.raw L (.loop { r with state := .busy }) :: os2) →
      WP P n r.body (fun e σ4 w4 => ∃ jump os4, jumpOf e = some jump ∧ St w0 w4 (.raw L (.loop { r with state := .busy }) :: os4) ∧ ∀ w5, St w0 w5 (.raw L (.loop (recJ r jump)) :: os4) → R (.bool jump.isNone) w5) σ2 w3) σ1 w) :
    RoundIn Fence.wide 0 P L r.fn tmps r.assign r.body w fun e w'' => ∃ v, e = .returned v ∧ R v w'' := by
  subst ht
  refine roundIn_of_wpIn trivial ?_
  have z := Zaf (r := some L) (m := 0) (D := []) (.inr hd1) (by rintro ⟨a, w, σ', _, h⟩; cases h.1) h.out
  rw [Z74] at z
  have e0 : Fr n σ1 = { tmps := (Fr n σ1).tmps, defers := [] } := rfl
  rw [← e0]
  refine wpIn_mono (F := widR (some L)) z ?_
  rintro e a2 w2 ⟨b, hb, σ2, ha, he, os2, S2, hk⟩
  subst he ha
  rw [Z74] at hb
  subst hb
  have hrun := run_beginRound (P := P) (S2.rawAt (i := 0) rfl) hr
  refine ⟨_, hrun, ?_⟩
  have S3 : St w0 _ (.raw L (.loop { r with state := .busy }) :: os2) := S2.putRaw (i := 0) (.loop { r with state := .busy }) rfl
  have z := Zaf (r := some L) (m := 0) (D := []) (.inr hd2) (by rintro ⟨a, w, σ', _, j, os4, h, _⟩; cases h) (hk _ S3).out
  rw [Z74] at z
  refine wpIn_mono (F := widR (some L)) z ?_
  rintro e a4 w4 ⟨b, hb, σ4, ha, jump, os4, hj, S4, hk4⟩
  subst ha
  have hend := fun (j : Option Code) => run_endRound (P := P) j (S4.rawAt (i := 0) rfl)
  have S5 : St w0 _ (.raw L (.loop (recJ r jump)) :: os4) := S4.putRaw (i := 0) (.loop (recJ r jump)) rfl
  cases e with
  | normal => cases hj; exact ⟨_, _, hend none, _, rfl, hk4 _ S5⟩
  | ret => cases hj; exact ⟨_, _, hend (some .ret), _, rfl, hk4 _ S5⟩
  | exit id => cases hj; exact ⟨_, _, hend (some (.exit id)), _, rfl, hk4 _ S5⟩
  | goto t => cases hj
  | panic c => cases hj
  | outgrown => cases hj

theorem Fr_set (n : Nat) (σ : Nat → Value) (p : Nat) (v : Value) : (Fr n σ).tmps.setIfInBounds p v = (Fr n (upd σ p v)).tmps := congrArg Act.tmps (Z4f n σ (some p) v)

def Z97 (b : Nat) : Deferred := { target := .collected b, args := #[] }
abbrev Zdg := Exit → List Nat → (Nat → Value) → World → Prop
def liftD (n : Nat) (Q : Zdg) : Exit → Act → World → Prop := fun e a w => ∃ D σ, a = actD (D.map Z97) (Fr n σ) ∧ Q e D σ w
structure WD (P : Program) (n : Nat) (c : Code) (Q : Zdg) (D : List Nat) (σ : Nat → Value) (w : World) : Prop where mk :: (out : c.wpIn Fence.wide 0 P (liftD n Q) (actD (D.map Z97) (Fr n σ)) w)
class NoOut (Q : Zdg) : Prop where out : ∀ D σ w, ¬ Q .outgrown D σ w
section
variable {P : Program} {n : Nat} {Q : Zdg} {D : List Nat} {σ : Nat → Value} {w : World}
theorem WD_of {c : Code} [hQ : NoOut Q] (h : WP P n c (fun e σ w => Q e D σ w) σ w) : WD P n c Q D σ w := ⟨by
  have z := Zaf (r := none) (m := 0) (D := D.map Z97) (.inl rfl) (by rintro ⟨a, w, σ', _, h⟩; exact hQ.out _ _ _ h) h.out
  refine wpIn_mono (F := Fence.wide) z ?_
  rintro e a w1 ⟨b, hb, σ', ha, hq⟩
  subst ha
  exact ⟨D, σ', hb, hq⟩⟩
def Zh5 (k : List Nat → (Nat → Value) → World → Prop) (Q : Zdg) : Zdg
  | .normal, D, σ, w => k D σ w
  | e, D, σ, w => Q e D σ w
def inBDP (id : Nat) (Q : Zdg) : Zdg
  | .exit id', D, σ, w => if id' = id then Q .normal D σ w else Q (.exit id') D σ w
  | e, D, σ, w => Q e D σ w
instance {k : List Nat → (Nat → Value) → World → Prop} [h : NoOut Q] : NoOut (Zh5 k Q) := ⟨fun D σ w => h.out D σ w⟩
instance {id : Nat} [h : NoOut Q] : NoOut (inBDP id Q) := ⟨fun D σ w => h.out D σ w⟩
theorem Zh6 {x y : Code} (h : WD P n x (Zh5 (WD P n y Q) Q) D σ w) : WD P n (.seq x y) Q D σ w := ⟨by
  refine wpIn_seq (wpIn_mono h.out ?_)
  rintro e a w1 ⟨D', σ', ha, hq⟩
  subst ha
  cases e with
  | normal => exact WD.out hq
  | exit id => exact ⟨D', σ', rfl, hq⟩
  | goto l => exact ⟨D', σ', rfl, hq⟩
  | ret => exact ⟨D', σ', rfl, hq⟩
  | panic c => exact ⟨D', σ', rfl, hq⟩
  | outgrown => exact ⟨D', σ', rfl, hq⟩⟩
theorem WD_block {id : Nat} {c : Code} (h : WD P n c (inBDP id Q) D σ w) : WD P n (.block id c) Q D σ w := ⟨by
  refine wpIn_block (wpIn_mono h.out ?_)
  rintro e a w1 ⟨D', σ', ha, hq⟩
  subst ha
  cases e with
  | exit id' =>
    have hq' : if id' = id then Q .normal D' σ' w1 else Q (.exit id') D' σ' w1 := hq
    show if id' = id then liftD n Q .normal _ w1 else liftD n Q (.exit id') _ w1
    by_cases e : id' = id
    · rw [if_pos e] at hq' ⊢; exact ⟨D', σ', rfl, hq'⟩
    · rw [if_neg e] at hq' ⊢; exact ⟨D', σ', rfl, hq'⟩
  | normal => exact ⟨D', σ', rfl, hq⟩
  | goto l => exact ⟨D', σ', rfl, hq⟩
  | ret => exact ⟨D', σ', rfl, hq⟩
  | panic c => exact ⟨D', σ', rfl, hq⟩
  | outgrown => exact ⟨D', σ', rfl, hq⟩⟩
theorem Z5y {k : List Nat → (Nat → Value) → World → Prop} (h : k D σ w) : Zh5 k Q .normal D σ w := h
theorem Zkq {k : List Nat → (Nat → Value) → World → Prop} (h : Q .ret D σ w) : Zh5 k Q .ret D σ w := h
theorem Zfu {id : Nat} (h : Q .normal D σ w) : inBDP id Q .normal D σ w := h
theorem inBD_ret {id : Nat} (h : Q .ret D σ w) : inBDP id Q .ret D σ w := h
theorem WD_ret (h : Q .ret D σ w) : WD P n .ret Q D σ w := ⟨wpIn_ret ⟨D, σ, rfl, h⟩⟩
theorem WD_range {g : Operand} {ps : Array Tmp} {assign body : Code} {w0 : World} {os : List Ob} {gf : Nat} {lb : List Value} [he : Enters P gf] (S : St w0 w os) (hg : opv (cut n σ) g = .func (.func gf) #[] lb.toArray)
    (h : ∀ (fn L Dk : Nat) (w1 : World) (r : Loop), r = recL fn (Fr n σ).tmps ps assign body Dk → St w0 w1 (.raw L (.loop r) :: .raw Dk (.deferred (some [])) :: os) →
      Calls P gf (.func (.yield L) #[] #[] :: lb).toArray w1 fun e w' => (∃ v, e = .returned v) ∧ ∃ jump os', St w0 w' (.raw L (.loop (recJ r jump)) :: os') ∧
        ∀ w2, St w0 w2 os' → match jump with | none => Q .normal (Dk :: D) σ w2 | some c => WD P n c Q (Dk :: D) σ w2) :
    WD P n (.rangeFunc g ps assign body) Q D σ w := ⟨by
  refine wpIn_rangeFunc fun fn _ => ?_
  have hent := run_enterLoop_outer (P := P) (w := w) fn (Fr n σ).tmps ps assign body
  have S1 := (S.newRaw (.deferred (some []))).newRaw (.loop (recL fn (Fr n σ).tmps ps assign body w.heap.size))
  rw [World.size_alloc] at S1
  refine ⟨_, _, _, { target := .fn (.func gf) lb.toArray, args := #[.func (.yield (w.heap.size + 1)) #[] #[]] }, (w.alloc (.deferred (some []))).alloc (.loop (recL fn (Fr n σ).tmps ps assign body w.heap.size)), gf, (.func (.yield (w.heap.size + 1)) #[] #[] :: lb).toArray, _, hent, ?_, fun _ _ => trivial, ?_, (fun h => nomatch h), callsIn_wide.2 (Calls.mono (h fn (w.heap.size + 1) w.heap.size _ _ rfl S1) ?_)⟩
  · have hev : (actD (D.map Z97) (Fr n σ)).eval g = .func (.func gf) #[] lb.toArray := by rw [Zae, Z3n]; exact hg
    simp only [resolve, rangeCall, hev, Deferred.ofValue]
    simp [pure, Sem.run, Act.eval]
  · have := he.out (.func (.yield (w.heap.size + 1)) #[] #[] :: lb).toArray
      ((w.alloc (.deferred (some []))).alloc (.loop (recL fn (Fr n σ).tmps ps assign body w.heap.size)))
    simpa [invoke, bind, Sem.bind, pure] using this
  · rintro e w' ⟨⟨v, rfl⟩, jump, os', S', hk⟩
    have hend := run_endLoop (P := P) (S'.rawAt (i := 0) rfl) (by show (if jump.isNone then LoopState.ready else .done) ≠ .busy; split <;> simp)
    have S2 := (S'.putRaw (i := 0) (.loop { recJ (recL fn (Fr n σ).tmps ps assign body w.heap.size) jump with state := .exhausted }) rfl).tail
    refine ⟨jump, _, hend, ?_⟩
    have e0 : ({ actD (D.map Z97) (Fr n σ) with defers := [{ target := .collected w.heap.size, args := #[] }] ++ (actD (D.map Z97) (Fr n σ)).defers } : Act) = actD ((w.heap.size :: D).map Z97) (Fr n σ) := by
      simp [actD, Fr, Z97]
    have h2 := hk _ S2
    cases jump with
    | none => exact ⟨_, σ, e0, h2⟩
    | some c => show c.wpIn Fence.wide 0 P (liftD n Q) _ _; rw [e0]; exact h2.out⟩
end

abbrev marks (D : List Nat) : List Ob := D.map fun b => .raw b (.deferred (some []))
def endDD (P : Program) (fn : Func) (n : Nat) (R : Ending → World → Prop) : Zdg := fun e D σ w =>
  match e with
  | .normal | .ret => LeavesInM Fence.wide 0 P fn (Fr n σ).tmps R (D.map Z97) .returning w
  | _ => False
instance {P : Program} {fn : Func} {n : Nat} {R : Ending → World → Prop} : NoOut (endDD P fn n R) := ⟨fun _ _ _ h => h⟩
theorem Z71 {P : Program} {fn : Func} {tmps : Array Value} {R : Ending → World → Prop} {w0 : World} {os : List Ob} (h : ∀ w', St w0 w' os → ∃ v, (results fn tmps).run P w' = .ok v w' ∧ R (.returned v) w') :
    ∀ (D : List Nat) (w : World), St w0 w (marks D ++ os) → LeavesInM Fence.wide 0 P fn tmps R (D.map Z97) .returning w
  | [], w, S => h w S
  | b :: D, w, S => by
    refine ⟨by simp, .inl ⟨b, _, rfl, run_takeDeferred (S.rawAt (i := 0) rfl), Z71 h D _ ?_⟩⟩
    exact (S.putRaw (i := 0) (.deferred none) rfl).tail
theorem Zen {P : Program} {f n : Nat} {fn : Func} {c : Code} {l : List Value} {w : World} {R : Ending → World → Prop} (hf : P.funcs[f]? = some fn) (hb : fn.body = some c)
    (hn : fn.ntmps = n) (hln' : Nat.ble l.length n = true) (h : WD P n c (endDD P fn n R) [] (Zcp l 0) w) : Calls P f l.toArray w R := by
  subst hn
  have hln : l.length ≤ fn.ntmps := Nat.le_of_ble_eq_true hln'
  refine callsIn_wide.1 (callsIn_of_wp_marks (F := Fence.wide) (n := 0) hf hb trivial ?_)
  have hfr : ({ tmps := l.toArray ++ Array.replicate (fn.ntmps - l.toArray.size) undef, defers := [] } : Act) = Fr fn.ntmps (Zcp l 0) := by
    unfold Fr
    congr 1
    apply Array.ext_getElem?
    intro i
    rw [Array.getElem?_ofFn, Array.getElem?_append]
    by_cases h1 : i < l.length
    · have h2 : i < fn.ntmps := by omega
      simp [h1, h2, Z87]
    · by_cases h2 : i < fn.ntmps
      · have h3 : i - l.length < fn.ntmps - l.length := by omega
        simp [h1, h2, Z87, h3]
      · have h3 : ¬ i - l.length < fn.ntmps - l.length := by omega
        simp [h1, h2, h3]
  rw [hfr]
  have z := h.out
  rw [List.map_nil, Z74] at z
  refine wpIn_mono z ?_
  rintro e a w1 ⟨D, σ, rfl, hq⟩
  have ht : (actD (D.map Z97) (Fr fn.ntmps σ)).tmps = (Fr fn.ntmps σ).tmps := rfl
  have hd : (actD (D.map Z97) (Fr fn.ntmps σ)).defers = D.map Z97 := by simp [actD, Fr]
  cases e with
  | normal => show LeavesInM _ _ _ _ _ _ _ _ _; rw [ht, hd]; exact hq
  | ret => show LeavesInM _ _ _ _ _ _ _ _ _; rw [ht, hd]; exact hq
  | exit id => exact hq.elim
  | goto l => exact hq.elim
  | panic c => exact hq.elim
  | outgrown => exact hq.elim
end Go.Gx
namespace Go.Gx
open Go Go.RowKit Go.Gx

inductive OU
  | fin
  | vals (ks : List Nat) (t : OU)
  | one (k : Nat) (t : OU)
  | two (x : Nat) (tx : OU) (y : Nat) (ty : OU)
  | three (x : Nat) (tx : OU) (y : Nat) (ty : OU) (z : Nat) (tz : OU)
def OU.cnt : OU → Nat
  | .fin => 0
  | .vals ks t => ks.length + t.cnt
  | .one _ t => t.cnt + 1
  | .two _ tx _ _ => tx.cnt + 1
  | .three _ tx _ _ _ _ => tx.cnt + 1
section
variable {P : Program} {ops : Array Oper} {Q : Exit → Act → World → Prop} {md : Region.Mode} {J : World → Prop}
def Zfy (md : Region.Mode) (ops : Array Oper) (K : Array Bool → Bool) : List Nat → Array Bool → Bool
  | [], listed => K listed
  | k :: ks, listed => (Region.ready md ops listed).contains k && Region.free md ops listed k && Zfy md ops K ks (listed.setIfInBounds k true)
def Z72 (md : Region.Mode) (ops : Array Oper) : OU → Array Bool → Bool
  | .fin, listed => Z9f md ops [] [] [] listed
  | .vals ks t, listed => Zfy md ops (Z72 md ops t) ks listed
  | .one k t, listed => decide (Region.ready md ops listed = [k]) && Z72 md ops t (listed.setIfInBounds k true)
  | .two x tx y ty, listed => decide (Region.ready md ops listed = [x, y]) && Nat.beq tx.cnt ty.cnt && Z72 md ops tx (listed.setIfInBounds x true) && Z72 md ops ty (listed.setIfInBounds y true)
  | .three x tx y ty z tz, listed => decide (Region.ready md ops listed = [x, y, z]) && Nat.beq tx.cnt ty.cnt && Nat.beq tx.cnt tz.cnt && Z72 md ops tx (listed.setIfInBounds x true) && Z72 md ops ty (listed.setIfInBounds y true) && Z72 md ops tz (listed.setIfInBounds z true)
def permU (md : Region.Mode) (ops : Array Oper) (t : OU) : Bool := Region.noSelect ops && Z72 md ops t (Array.replicate ops.size false)
def Z6m (P : Program) (Q : Exit → Act → World → Prop) (J : World → Prop) (l : List Oper) : OU → Act → World → Prop
  | .fin, a, w => wpJ P l.toArray J (fun a' => Q .normal a' w) (Pm.pk l []) a
  | .vals ks t, a, w => wpJ P l.toArray J (fun a' => Z6m P Q J l t a' w) (Pm.pk l ks) a
  | .one k t, a, w => oneK P l.toArray Q J (l.getD k Pm.dflt) (Z6m P Q J l t) a w
  | .two x tx y ty, a, w => oneK P l.toArray Q J (l.getD x Pm.dflt) (Z6m P Q J l tx) a w ∧ oneK P l.toArray Q J (l.getD y Pm.dflt) (Z6m P Q J l ty) a w
  | .three x tx y ty z tz, a, w => oneK P l.toArray Q J (l.getD x Pm.dflt) (Z6m P Q J l tx) a w ∧ oneK P l.toArray Q J (l.getD y Pm.dflt) (Z6m P Q J l ty) a w ∧ oneK P l.toArray Q J (l.getD z Pm.dflt) (Z6m P Q J l tz) a w
theorem Zhd {l : List Oper} {c : Nat} {K : Array Bool → Bool} {R : Act → World → Prop} (hsel : Region.noSelect l.toArray = true) (hQ : ∀ c a w, ¬ Q (.panic c) a w)
    (H : ∀ (listed : Array Bool) (a : Act) (w : World), K listed = true → Z3p md l.toArray listed → J w → R a w → Z6n P md l.toArray Q J (fun d => !([] : List Nat).contains d) c listed a w) :
    ∀ (ks : List Nat) (listed : Array Bool) (a : Act) (w : World), Zfy md l.toArray K ks listed = true → Z3p md l.toArray listed → J w →
    wpJ P l.toArray J (fun a' => R a' w) (Pm.pk l ks) a → Z6n P md l.toArray Q J (fun d => !([] : List Nat).contains d) (ks.length + c) listed a w
  | [], listed, a, w, hB, hc, hJ, h => by
    simp only [List.length_nil, Nat.zero_add]
    exact H listed a w hB hc hJ h
  | k :: ks, listed, a, w, hB, hc, hJ, h => by
    simp only [Zfy, Bool.and_eq_true] at hB
    obtain ⟨⟨hr, hf⟩, hB'⟩ := hB
    have hr' : k ∈ Region.ready md l.toArray listed := by simpa using hr
    obtain ⟨_, o, h0, _⟩ := mem_ready.1 hr'
    rw [show Pm.pk l (k :: ks) = o :: Pm.pk l ks by rw [Pm.pk, Pm.pk_get h0]] at h
    have hy : ∃ v, Z48 P l.toArray J o v a ∧ wpJ P l.toArray J (fun a' => R a' w) (Pm.pk l ks) (a.put o.dst v) := by
      unfold wpJ at h
      by_cases hw : Region.wanted o (yielded l.toArray a.tmps) = true
      · rw [if_pos hw] at h
        obtain ⟨v, h1, h2⟩ := h
        exact ⟨v, .inl ⟨hw, h1⟩, h2⟩
      · rw [if_neg hw] at h
        exact ⟨undef, .inr ⟨by simpa using hw, rfl⟩, h⟩
    obtain ⟨v, hy, hK⟩ := hy
    have hrec := Zhd hsel hQ H ks _ (a.put o.dst v) w hB' (hc.set hr') hJ hK
    have e : (k :: ks).length + c = ks.length + c + 1 := by simp; omega
    rw [e]
    exact Zgg h0 (Region.noSelect_spec hsel) (fun c a w h => absurd h (hQ _ _ _)) (fun d hdu hds => by simp at hdu) _ listed a w (Region.free_spec h0 hf) hc hr' hy hJ hrec
theorem Z7f {l : List Oper} {t : OU} {listed : Array Bool} {a : Act} {w : World} {i : Nat} (hi0 : i ∈ Region.ready md l.toArray listed) (hc : Z3p md l.toArray listed) (h : oneK P l.toArray Q J (l.getD i Pm.dflt) (Z6m P Q J l t) a w)
    (H : ∀ (a : Act) (w : World), Z3p md l.toArray (listed.setIfInBounds i true) → J w → Z6m P Q J l t a w → Z6n P md l.toArray Q J (fun d => !([] : List Nat).contains d) t.cnt (listed.setIfInBounds i true) a w) :
    sOp P l.toArray Q i (fun a' w' => ((fun d => !([] : List Nat).contains d) i = true → J w') ∧ Z6n P md l.toArray Q J (fun d => !([] : List Nat).contains d) t.cnt (listed.setIfInBounds i true) a' w') a w := by
  obtain ⟨hun, o, h0, _⟩ := mem_ready.1 hi0
  rw [Pm.pk_get h0] at h
  have hw : sOp P l.toArray Q i (fun a' w' => J w' ∧ Z6m P Q J l t a' w') a w := by unfold sOp; simp only [h0]; exact h
  exact Z37 (fun a' w' h' => ⟨fun _ => h'.1, H a' w' (hc.set hi0) h'.1 h'.2⟩) hw
theorem Z55 {l : List Oper} (hsel : Region.noSelect l.toArray = true) (hQ : ∀ c a w, ¬ Q (.panic c) a w) : ∀ (t : OU) (listed : Array Bool) (a : Act) (w : World),
    Z72 md l.toArray t listed = true → Z3p md l.toArray listed → J w → Z6m P Q J l t a w → Z6n P md l.toArray Q J (fun d => !([] : List Nat).contains d) t.cnt listed a w
  | .fin, listed, a, w, hB, hc, hJ, h => by
    have := Ziz (P := P) (Q := Q) (md := md) (J := J) (l := l) (ts := []) (us := []) hsel hQ [] listed a w hB hc hJ h
    simpa [OU.cnt] using this
  | .vals ks t, listed, a, w, hB, hc, hJ, h => Zhd hsel hQ (fun listed a w => Z55 hsel hQ t listed a w) ks listed a w hB hc hJ h
  | .one k t, listed, a, w, hB, hc, hJ, h => by
    simp only [Z72, Bool.and_eq_true, decide_eq_true_eq] at hB
    show Z6n P md l.toArray Q J _ (t.cnt + 1) listed a w
    refine ⟨fun h1 => (by rw [hB.1] at h1; cases h1), fun i hi => ?_⟩
    have hi0 := hi
    rw [hB.1] at hi
    have hik : i = k := by simpa using hi
    subst hik
    exact Z7f hi0 hc h (fun a w hc hJ h => Z55 hsel hQ t _ a w hB.2 hc hJ h)
  | .two x tx y ty, listed, a, w, hB, hc, hJ, h => by
    simp only [Z72, Bool.and_eq_true, decide_eq_true_eq] at hB
    obtain ⟨⟨⟨hr, hcnt⟩, h1⟩, h2⟩ := hB
    have hce := Nat.eq_of_beq_eq_true hcnt
    show Z6n P md l.toArray Q J _ (tx.cnt + 1) listed a w
    refine ⟨fun h1 => (by rw [hr] at h1; cases h1), fun i hi => ?_⟩
    have hi0 := hi
    rw [hr] at hi
    have hik : i = x ∨ i = y := by simpa using hi
    rcases hik with hik | hik
    · subst hik
      exact Z7f hi0 hc h.1 (fun a w hc hJ h => Z55 hsel hQ tx _ a w h1 hc hJ h)
    · subst hik
      rw [hce]
      exact Z7f hi0 hc h.2 (fun a w hc hJ h => Z55 hsel hQ ty _ a w h2 hc hJ h)
  | .three x tx y ty z tz, listed, a, w, hB, hc, hJ, h => by
    simp only [Z72, Bool.and_eq_true, decide_eq_true_eq] at hB
    obtain ⟨⟨⟨⟨⟨hr, hcnt⟩, hcnt2⟩, h1⟩, h2⟩, h3⟩ := hB
    have hce := Nat.eq_of_beq_eq_true hcnt
    have hce2 := Nat.eq_of_beq_eq_true hcnt2
    show Z6n P md l.toArray Q J _ (tx.cnt + 1) listed a w
    refine ⟨fun h1 => (by rw [hr] at h1; cases h1), fun i hi => ?_⟩
    have hi0 := hi
    rw [hr] at hi
    have hik : i = x ∨ i = y ∨ i = z := by simpa using hi
    rcases hik with hik | hik | hik
    · subst hik
      exact Z7f hi0 hc h.1 (fun a w hc hJ h => Z55 hsel hQ tx _ a w h1 hc hJ h)
    · subst hik
      rw [hce]
      exact Z7f hi0 hc h.2.1 (fun a w hc hJ h => Z55 hsel hQ ty _ a w h2 hc hJ h)
    · subst hik
      rw [hce2]
      exact Z7f hi0 hc h.2.2 (fun a w hc hJ h => Z55 hsel hQ tz _ a w h3 hc hJ h)
end
def wu (P : Program) (n : Nat) (Q : Post) (J : World → Prop) (l : List Oper) : OU → (Nat → Value) → World → Prop
  | .fin, σ, w => Q .normal σ w
  | .vals ks t, σ, w => jq P n l.toArray J (fun σ' => wu P n Q J l t σ' w) (Pm.pk l ks) σ
  | .one k t, σ, w => kq P n l.toArray Q J (l.getD k Pm.dflt) (wu P n Q J l t) σ w
  | .two x tx y ty, σ, w => kq P n l.toArray Q J (l.getD x Pm.dflt) (wu P n Q J l tx) σ w ∧ kq P n l.toArray Q J (l.getD y Pm.dflt) (wu P n Q J l ty) σ w
  | .three x tx y ty z tz, σ, w => kq P n l.toArray Q J (l.getD x Pm.dflt) (wu P n Q J l tx) σ w ∧ kq P n l.toArray Q J (l.getD y Pm.dflt) (wu P n Q J l ty) σ w ∧ kq P n l.toArray Q J (l.getD z Pm.dflt) (wu P n Q J l tz) σ w
theorem jq_tree {P : Program} {n : Nat} {Q : Post} {J : World → Prop} {l : List Oper} {K : (Nat → Value) → Prop} {K' : Act → Prop} {ks : List Nat} {σ : Nat → Value} (h : jq P n l.toArray J K (Pm.pk l ks) σ) (hK : ∀ σ', K σ' → K' (Fr n σ')) : wpJ P l.toArray J K' (Pm.pk l ks) (Fr n σ) := by
  have mono : ∀ (l' : List Oper) (a : Act), wpJ P l.toArray J (fun a => ∃ σ', a = Fr n σ' ∧ K σ') l' a → wpJ P l.toArray J K' l' a := by
    intro l'
    induction l' with
    | nil => rintro a ⟨σ', rfl, hh⟩; exact hK _ hh
    | cons o r ih =>
      intro a ha
      unfold wpJ at ha ⊢
      split
      · rename_i hw; rw [if_pos hw] at ha; obtain ⟨v, h1, h2⟩ := ha; exact ⟨v, h1, ih _ h2⟩
      · rename_i hw; rw [if_neg hw] at ha; exact ih _ ha
  exact mono _ _ h.out
theorem Z99 {P : Program} {n : Nat} {Q : Post} {J : World → Prop} {l : List Oper} {K : (Nat → Value) → World → Prop} {K' : Act → World → Prop} {i : Nat} {md : Region.Mode} {listed : Array Bool} {σ : Nat → Value} {w : World} (hr : i ∈ Region.ready md l.toArray listed)
    (h : kq P n l.toArray Q J (l.getD i Pm.dflt) K σ w) (hK : ∀ σ' w', K σ' w' → K' (Fr n σ') w') : oneK P l.toArray (lift n Q) J (l.getD i Pm.dflt) K' (Fr n σ) w := by
  obtain ⟨_, o, h0, _⟩ := mem_ready.1 hr
  have h' := h.out
  rw [Pm.pk_get h0] at h' ⊢
  exact Z8n h0 (fun a w ⟨σ', e, h2⟩ => by rw [e]; exact hK σ' w h2) h'
theorem Zcf {md : Region.Mode} {ops : Array Oper} {K : Array Bool → Bool} : ∀ {ks : List Nat} {listed : Array Bool}, Zfy md ops K ks listed = true → ∃ listed', K listed' = true
  | [], listed, h => ⟨listed, h⟩
  | k :: ks, listed, h => by simp only [Zfy, Bool.and_eq_true] at h; exact Zcf h.2
theorem Z60 {P : Program} {n : Nat} {Q : Post} {J : World → Prop} {l : List Oper} : ∀ (t : OU) (listed : Array Bool) (σ : Nat → Value) (w : World), Z72 .any l.toArray t listed = true → wu P n Q J l t σ w → Z6m P (lift n Q) J l t (Fr n σ) w
  | .fin, listed, σ, w, _, h => ⟨σ, rfl, h⟩
  | .vals ks t, listed, σ, w, hB, h => by
    obtain ⟨listed', hl⟩ := Zcf (show Zfy .any l.toArray (Z72 .any l.toArray t) ks listed = true from hB)
    exact jq_tree (Q := Q) (show jq P n l.toArray J (fun σ' => wu P n Q J l t σ' w) (Pm.pk l ks) σ from h) (fun σ' h' => Z60 t listed' σ' w hl h')
  | .one k t, listed, σ, w, hB, h => by
    simp only [Z72, Bool.and_eq_true, decide_eq_true_eq] at hB
    exact Z99 (by rw [hB.1]; simp : k ∈ Region.ready .any l.toArray listed) h (fun σ' w' h' => Z60 t _ σ' w' hB.2 h')
  | .two x tx y ty, listed, σ, w, hB, h => by
    simp only [Z72, Bool.and_eq_true, decide_eq_true_eq] at hB
    obtain ⟨⟨⟨hr, _⟩, b1⟩, b2⟩ := hB
    exact ⟨Z99 (by rw [hr]; simp : x ∈ Region.ready .any l.toArray listed) h.1 (fun σ' w' h' => Z60 tx _ σ' w' b1 h'), Z99 (by rw [hr]; simp : y ∈ Region.ready .any l.toArray listed) h.2 (fun σ' w' h' => Z60 ty _ σ' w' b2 h')⟩
  | .three x tx y ty z tz, listed, σ, w, hB, h => by
    simp only [Z72, Bool.and_eq_true, decide_eq_true_eq] at hB
    obtain ⟨⟨⟨⟨⟨hr, _⟩, _⟩, b1⟩, b2⟩, b3⟩ := hB
    exact ⟨Z99 (by rw [hr]; simp : x ∈ Region.ready .any l.toArray listed) h.1 (fun σ' w' h' => Z60 tx _ σ' w' b1 h'), Z99 (by rw [hr]; simp : y ∈ Region.ready .any l.toArray listed) h.2.1 (fun σ' w' h' => Z60 ty _ σ' w' b2 h'), Z99 (by rw [hr]; simp : z ∈ Region.ready .any l.toArray listed) h.2.2 (fun σ' w' h' => Z60 tz _ σ' w' b3 h')⟩
section
variable {P : Program} {n : Nat} {ops : Array Oper} {Q : Post} {J : World → Prop} {o : Oper} {K : (Nat → Value) → World → Prop} {σ : Nat → Value} {w : World} {v : Value} {l : List Oper}
theorem Z3t (h : Q .normal σ w) : wu P n Q J l .fin σ w := h
theorem Z1y {ks : List Nat} {t : OU} (h : jq P n l.toArray J (fun σ' => wu P n Q J l t σ' w) (Pm.pk l ks) σ) : wu P n Q J l (.vals ks t) σ w := h
theorem Z2b {k : Nat} {t : OU} (h : kq P n l.toArray Q J (l.getD k Pm.dflt) (wu P n Q J l t) σ w) : wu P n Q J l (.one k t) σ w := h
theorem Zbm {x y : Nat} {tx ty : OU} (h1 : kq P n l.toArray Q J (l.getD x Pm.dflt) (wu P n Q J l tx) σ w) (h2 : kq P n l.toArray Q J (l.getD y Pm.dflt) (wu P n Q J l ty) σ w) : wu P n Q J l (.two x tx y ty) σ w := ⟨h1, h2⟩
theorem kq_val (hw : Z3w o ops n σ = true) (hrun : Runs P (opv (cut n σ)) o w (.ok (.value v) w)) (hJ : J w) (k : K (updO σ o.dst v) w) : kq P n ops Q J o K σ w :=
  Z2i (R := fun v' w' => v' = v ∧ w' = w) hw ⟨v, w, hrun, rfl, rfl⟩ (by rintro _ _ ⟨rfl, rfl⟩; exact ⟨hJ, k⟩)
theorem Z3c {R : World → Prop} (hw : Z3w o ops n σ = true) (h : ∃ w', Runs P (opv (cut n σ)) o w (.ok .skip w') ∧ R w') (k : ∀ w', R w' → J w' ∧ K (updO σ o.dst undef) w') : kq P n ops Q J o K σ w := by
  obtain ⟨w', hrun, hr⟩ := h
  refine ⟨?_⟩
  unfold oneK
  rw [if_pos (by rw [Z2p]; exact hw)]
  left
  left
  unfold Oper.wp
  rw [Z3n, hrun.out, Oper.upon_skip, Z4f]
  exact ⟨(k w' hr).1, _, rfl, (k w' hr).2⟩
end
theorem Z3r {P : Program} {n : Nat} {Q : Post} {σ : Nat → Value} {w : World} {id : Nat} {l : List Oper} (J : World → Prop) (t : OU) (hm : P.follows .mixedOrders = true) (hz : Nat.beq t.cnt l.length = true) (hB : permU .any l.toArray t = true)
    (hJ : ∀ w', Below w.heap.size w w' → J w')
    (h : ∀ w', Below w.heap.size w w' → wu P n (calm Q) J l t σ w') : WP P n (.region id l.toArray true) Q σ w := by
  refine ⟨Z41 NoPanic.imp (Zbx hm (Z6r (J := J) (nj := fun d => !([] : List Nat).contains d) _ _ _ _ ?_))⟩
  simp only [permU, Bool.and_eq_true] at hB
  have hq : lift n (calm Q) = NoPanic (lift n Q) := by
    funext e a w
    cases e <;> simp [lift, calm, NoPanic]
  have hb : Below w.heap.size w { w with drawn := w.drawn + 1 } := Z4s w
  have hs := Z60 t _ σ _ hB.2 (h _ hb)
  rw [hq] at hs
  have key := Z55 (P := P) (Q := NoPanic (lift n Q)) (md := .any) (J := J) (l := l) hB.1 (fun c a w h => by simp [NoPanic] at h) t (Array.replicate l.toArray.size false) (Fr n σ) { w with drawn := w.drawn + 1 } hB.2 (fun j oj _ hl => by rw [getD_replicate_false] at hl; cases hl) (hJ _ hb) hs
  have e : t.cnt = l.toArray.size := by simpa using Nat.eq_of_beq_eq_true hz
  rw [e] at key
  exact key
end Go.Gx
namespace Go.Gx
open Go Go.RowKit

def Qu {α : Type} (D : Flat α) (T : TypeId) (o : Ob) (v : Value) (l : List α) : Prop :=
  (v = .slice none 0 0 ∧ l = [] ∧ o = .row (.slice none 0 0) T D.sz 0 []) ∨
  ∃ g off cap cur, v = .slice (some ⟨g, off, none⟩) l.length cap ∧ o = .var g T cur ∧ cap ≤ maxLen ∧ l.length ≤ cap ∧ off + cap * D.sz ≤ cur.length ∧ (cur.drop off).take (l.length * D.sz) = fl D l

theorem fl_getQ {α : Type} {D : Flat α} : ∀ {l : List α} {j : Nat} {x : α}, l[j]? = some x → ∀ {i : Nat} {u : Value}, (D.enc x)[i]? = some u → (fl D l)[j * D.sz + i]? = some u := by
  intro l
  induction l with
  | nil => intro j x hj; simp at hj
  | cons y r ih =>
    intro j x hj i u hu
    unfold fl
    rw [List.flatMap_cons]
    cases j with
    | zero =>
      simp at hj; subst hj
      rw [Nat.zero_mul, Nat.zero_add, List.getElem?_append_left (by rcases Nat.lt_or_ge i (D.enc y).length with h | h; exact h; rw [List.getElem?_eq_none h] at hu; cases hu)]; exact hu
    | succ j =>
      rw [List.getElem?_append_right (by rw [D.len, Nat.add_mul]; omega), D.len, show (j + 1) * D.sz + i - D.sz = j * D.sz + i by rw [Nat.add_mul]; omega]
      exact ih (by simpa using hj) hu

theorem Qu.nil {α : Type} (D : Flat α) (T : TypeId) : Qu D T (.row (.slice none 0 0) T D.sz 0 []) (.slice none 0 0) ([] : List α) := .inl ⟨rfl, rfl, rfl⟩
theorem Qu.len {α : Type} {D : Flat α} {T : TypeId} {o : Ob} {v : Value} {l : List α} (h : Qu D T o v l) : ∃ A c, v = .slice A l.length c := by
  rcases h with ⟨rfl, rfl, _⟩ | ⟨g, off, cap, cur, h, _⟩
  · exact ⟨_, _, rfl⟩
  · exact ⟨_, _, h⟩
theorem cur_get {cur : List Value} {off n : Nat} {xs : List Value} (h : (cur.drop off).take n = xs) {j : Nat} {u : Value} (hj : xs[j]? = some u) : cur[off + j]? = some u := by
  rw [← h, List.getElem?_take] at hj
  split at hj
  · rw [List.getElem?_drop] at hj; exact hj
  · cases hj
theorem Qu.cells {α : Type} {D : Flat α} {T : TypeId} {w0 w : World} {os : List Ob} {i : Nat} {g off cap : Nat} {cur : List Value} {l : List α} (S : St w0 w os) (hi : os[i]? = some (.var g T cur)) (h : (cur.drop off).take (l.length * D.sz) = fl D l) :
    ∀ j u, (fl D l)[j]? = some u → w.cell? ((⟨g, off, none⟩ : Addr).add j) = some u := fun j u hj => by
  have := (S.var hi).2.2 (off + j) u (cur_get h hj)
  rw [Z6e, Nat.zero_add] at this
  rw [Z6e]; exact this
theorem Qu.rd {α : Type} {D : Flat α} {T : TypeId} {o : Ob} {v : Value} {l : List α} (h : Qu D T o v l) {w0 w : World} {os : List Ob} {i : Nat} (S : St w0 w os) (hi : os[i]? = some o) : Rd D.ty w v l := by
  rcases h with ⟨rfl, rfl, _⟩ | ⟨g, off, cap, cur, rfl, rfl, hm, hc, hf, ht⟩
  · exact Rd.nil _ _
  · refine ⟨_, _, rfl, hc, .inr ⟨_, rfl, rfl, (S.var hi).1, fun j x hj => ⟨_, rfl, fun k u hu => Qu.cells (cap := cap) S hi ht _ u (fl_getQ hj hu)⟩⟩⟩

section
variable {P : Program} {ρ : Operand → Value} {w w0 : World} {d : Option Tmp} {ty : TypeId} {pos : String} {af : Array Edge} {g : Option (Nat × Bool)} {T T' : TypeId} {s t : Operand} {os : List Ob}
end
end Go.Gx
namespace Go.Gx
open Go Go.RowKit
section
variable {P : Program} {ρ : Operand → Value} {w w0 : World} {d : Option Tmp} {ty : TypeId} {pos : String} {af : Array Edge} {g : Option (Nat × Bool)} {T : TypeId} {s t : Operand} {os : List Ob}
end
end Go.Gx
