/-
  Frames as functions from slots to values, and the rules of the walk over them: every step is one lemma, applied by 'refine'; no simp.
-/
import Derived.WalkKit
import Derived.Deep.Quiet
import Derived.Deep.LoopGhost
import Derived.Deep.RegionHeld3
import Derived.Sort.LoopGhostIn
import Derived.TacticsIn
import Derived.Scope
namespace Go.Gx
set_option linter.unusedVariables false
open Go Go.RowKit

def upd (σ : Nat → Value) (d : Nat) (v : Value) (t : Nat) : Value := bif Nat.beq t d then v else σ t
def cut (n : Nat) (σ : Nat → Value) (t : Nat) : Value := bif Nat.ble (t + 1) n then σ t else undef
def updO (σ : Nat → Value) : Option Nat → Value → Nat → Value
  | some d, v => upd σ d v
  | none, _ => σ
def opv (ρ : Nat → Value) : Operand → Value
  | .tmp t => ρ t
  | .const v => v
  | .global g => .pointer (some ⟨g, 0, none⟩)
  | .func f => .func (.func f) #[] #[]
def Fr (n : Nat) (σ : Nat → Value) : Act := { tmps := Array.ofFn (n := n) (fun i => σ i.val), defers := [] }

theorem upd_same (σ : Nat → Value) (d : Nat) (v : Value) : upd σ d v d = v := by simp [upd]
theorem upd_other (σ : Nat → Value) {d t : Nat} (v : Value) (h : t ≠ d) : upd σ d v t = σ t := by
  have : Nat.beq t d = false := by cases hb : Nat.beq t d; rfl; exact absurd (Nat.eq_of_beq_eq_true hb) h
  simp [upd, this]
theorem upd_self {σ : Nat → Value} {d : Nat} {v : Value} (h : σ d = v) : upd σ d v = σ := by
  funext t
  by_cases e : t = d
  · subst e; rw [upd_same, h]
  · rw [upd_other _ _ e]

theorem cut_lt {n : Nat} {σ : Nat → Value} {t : Nat} (h : t < n) : cut n σ t = σ t := by
  have : Nat.ble (t + 1) n = true := Nat.ble_eq ▸ h
  simp [cut, this]
theorem cut_ge {n : Nat} {σ : Nat → Value} {t : Nat} (h : ¬ t < n) : cut n σ t = undef := by
  have : Nat.ble (t + 1) n = false := by cases hb : Nat.ble (t + 1) n; rfl; exact absurd (Nat.le_of_ble_eq_true hb) h
  simp [cut, this]

theorem Fr_get (n : Nat) (σ : Nat → Value) (t : Nat) : (Fr n σ).tmps[t]? = if t < n then some (σ t) else none := by
  simp only [Fr, Array.getElem?_ofFn]
  split <;> simp_all

theorem Fr_eval (n : Nat) (σ : Nat → Value) : (Fr n σ).eval = opv (cut n σ) := by
  funext x
  cases x with
  | tmp t =>
    show (Fr n σ).tmps.getD t undef = cut n σ t
    rw [Array.getD_eq_getD_getElem?, Fr_get]
    by_cases h : t < n
    · rw [if_pos h, cut_lt h]; rfl
    · rw [if_neg h, cut_ge h]; rfl
  | const v => rfl
  | global g => rfl
  | func f => rfl

theorem Fr_put (n : Nat) (σ : Nat → Value) (d : Option Nat) (v : Value) : (Fr n σ).put d v = Fr n (updO σ d v) := by
  cases d with
  | none => rfl
  | some d =>
    simp only [Act.put, updO]
    unfold Fr
    congr 1
    apply Array.ext_getElem?
    intro i
    rw [Array.getElem?_setIfInBounds, Array.getElem?_ofFn, Array.getElem?_ofFn]
    simp only [Array.size_ofFn]
    by_cases hi : i < n
    · by_cases e : d = i
      · subst e; simp [hi, upd_same]
      · simp [e, hi, upd_other _ _ (Ne.symm e)]
    · by_cases e : d = i
      · subst e; simp [hi]
      · simp [e, hi]

/-- What an operation's guard reads. -/
def yS (ops : Array Oper) (n : Nat) (σ : Nat → Value) (j : Nat) : Option Bool :=
  match (ops[j]?).bind (·.dst) with
  | some d => match cut n σ d with
    | .bool b => some b
    | _ => none
  | none => none

theorem yielded_eq (ops : Array Oper) (n : Nat) (σ : Nat → Value) : yielded ops (Fr n σ).tmps = yS ops n σ := by
  funext j
  unfold yielded yS
  cases h : (ops[j]?).bind (·.dst) with
  | none => rfl
  | some d =>
    simp only [Option.bind_some, Fr_get]
    by_cases hd : d < n
    · rw [if_pos hd, cut_lt hd]
      cases σ d <;> rfl
    · rw [if_neg hd, cut_ge hd]; rfl

def wantS (o : Oper) (ops : Array Oper) (n : Nat) (σ : Nat → Value) : Bool := Region.wanted o (yS ops n σ)

abbrev Post := Exit → (Nat → Value) → World → Prop
def lift (n : Nat) (Q : Post) : Exit → Act → World → Prop := fun e a w => ∃ σ', a = Fr n σ' ∧ Q e σ' w

/-- A call of a range's own yield: what stands behind it. -/
def rnd (P : Program) (o : Oper) (a : Act) (w : World) (next : Act → World → Prop) : Prop := ∃ l f tmps assign body w', (execOp a.eval o).run P w = .ok (.round l f tmps assign body) w' ∧
  RoundIn Fence.wide 0 P l f tmps assign body w' fun e w'' => ∃ v, e = .returned v ∧ next (a.put o.dst v) w''
/-- What one operation comes to: what the kit's walk says of it, or a round of a range. -/
def Oper.sp (P : Program) (o : Oper) (a : Act) (w : World) (next : Act → World → Prop) (Q : Exit → Act → World → Prop) : Prop := (o.wp P a w next Q ∨ (o.asks P a w ∧ LetsOut Q)) ∨ rnd P o a w next
def sOp (P : Program) (ops : Array Oper) (Q : Exit → Act → World → Prop) (i : Nat) (K : Act → World → Prop) (a : Act) (w : World) : Prop :=
  match ops[i]? with
  | none => K a w
  | some o => if Region.wanted o (yielded ops a.tmps) = true then Oper.sp P o a w K Q else K (a.put o.dst undef) w
def sOps (P : Program) (ops : Array Oper) (Q : Exit → Act → World → Prop) : List Nat → Act → World → Prop
  | [], a, w => Q .normal a w
  | i :: rest, a, w => sOp P ops Q i (sOps P ops Q rest) a w
def sList (P : Program) (ops : Array Oper) (Q : Exit → Act → World → Prop) : List Oper → Act → World → Prop
  | [], a, w => Q .normal a w
  | o :: rest, a, w => if Region.wanted o (yielded ops a.tmps) = true then Oper.sp P o a w (sList P ops Q rest) Q else sList P ops Q rest (a.put o.dst undef) w
theorem sOps_eq_sList {P : Program} {ops : Array Oper} {Q : Exit → Act → World → Prop} (l : List Oper) : ∀ k, (∀ j, l[j]? = ops[k + j]?) → sOps P ops Q (List.range' k l.length) = sList P ops Q l := by
  induction l with
  | nil => intro k _; funext a w; simp [sOps, sList]
  | cons o l ih =>
    intro k h
    have h0 : ops[k]? = some o := by simpa using (h 0).symm
    have ih' := ih (k + 1) (fun j => by have := h (j + 1); simpa [Nat.add_assoc, Nat.add_comm 1 j] using this)
    funext a w
    simp only [List.length_cons, List.range'_succ, sOps, sOp, h0, sList, ih']
/-- A list of operations, in order. -/
structure wl (P : Program) (n : Nat) (ops : Array Oper) (Q : Post) (l : List Oper) (σ : Nat → Value) (w : World) : Prop where mk :: (out : sList P ops (lift n Q) l (Fr n σ) w)

/-- Code, walked along its structure: it serves a frame with deferred calls, and a round of a range over a function, too. -/
def sw (P : Program) : Code → (Exit → Act → World → Prop) → Act → World → Prop
  | .region _ ops draw, Q, a, w => if draw then ∀ t, sOps P ops Q (Region.schedule (P.follows .mixedOrders) ops t) a { w with drawn := w.drawn + 1 } else sOps P ops Q (List.range ops.size) a w
  | .seq x y, Q, a, w => sw P x (Exit.then (sw P y Q) Q) a w
  | .cond c x y, Q, a, w => ∃ b, a.eval c = .bool b ∧ (b = true → sw P x Q a w) ∧ (b = false → sw P y Q a w)
  | .block id c, Q, a, w => sw P c (Exit.inBlock id Q) a w
  | .loop c, Q, a, w => ∃ (I : Nat → Act → World → Prop) (k0 : Nat), I k0 a w ∧ ∀ k a w, I k a w → sw P c (Exit.then (fun a' w' => ∃ k', k' < k ∧ I k' a' w') Q) a w
  | .skip, Q, a, w => Q .normal a w
  | .exit id, Q, a, w => Q (.exit id) a w
  | .ret, Q, a, w => Q .ret a w
  | .label _, Q, a, w => Q .normal a w
  | .scope c, Q, a, w => sw P c (Exit.noGoto Q) a w
  | _, _, _, _ => False
theorem sOps_of {P : Program} {ops : Array Oper} {Q : Exit → Act → World → Prop} : ∀ {l : List Nat} {a : Act} {w : World}, wpOps P ops Q l a w → sOps P ops Q l a w
  | [], _, _, h => h
  | i :: rest, a, w, h => by
    unfold wpOps at h
    unfold sOps sOp
    cases ho : ops[i]? with
    | none => simp only [ho] at h ⊢; exact sOps_of h
    | some o =>
      simp only [ho] at h ⊢
      split
      · rename_i hw
        rw [if_pos hw] at h
        exact .inl (h.imp (Oper.wp_mono fun _ _ h => sOps_of h) id)
      · rename_i hw
        rw [if_neg hw] at h
        exact sOps_of h
theorem LetsOut.imp {Q Q' : Exit → Act → World → Prop} (hq : ∀ e a w, Q e a w → Q' e a w) (h : LetsOut Q) : LetsOut Q' := let ⟨a, w, h⟩ := h; ⟨a, w, hq _ _ _ h⟩
theorem wp_mono3 {P : Program} {o : Oper} {a : Act} {w : World} {K K' : Act → World → Prop} {Q Q' : Exit → Act → World → Prop} (hp : ∀ c a w, Q (.panic c) a w → Q' (.panic c) a w) (ho : LetsOut Q → LetsOut Q') (hk : ∀ a w, K a w → K' a w) (h : o.wp P a w K Q) : o.wp P a w K' Q' := by
  unfold Oper.wp at *
  generalize (execOp a.eval o).run P w = r at *
  cases r with
  | ok x w' =>
    cases x <;> simp only [Oper.upon] at h ⊢ <;> first | exact hk _ _ h | exact h.elim | skip
    · exact Calls.mono h fun e w'' h => by
        cases e with
        | returned v => exact hk _ _ h
        | panicked c => exact hp _ _ _ h
        | outgrown => exact ho h
    · exact Rows.mono h fun v w'' h => hk _ _ h
  | halt x w' => cases x <;> simp only [Oper.upon] at h ⊢ <;> first | exact hp _ _ _ h | exact h.elim
theorem wp_mono2 {P : Program} {o : Oper} {a : Act} {w : World} {K K' : Act → World → Prop} {Q Q' : Exit → Act → World → Prop} (hq : ∀ e a w, Q e a w → Q' e a w) (hk : ∀ a w, K a w → K' a w) (h : o.wp P a w K Q) : o.wp P a w K' Q' :=
  wp_mono3 (fun _ => hq _) (LetsOut.imp hq) hk h
theorem rnd_mono {P : Program} {o : Oper} {a : Act} {w : World} {K K' : Act → World → Prop} (hk : ∀ a w, K a w → K' a w) (h : rnd P o a w K) : rnd P o a w K' := by
  obtain ⟨l, f, tmps, as, b, w', h1, h2⟩ := h
  exact ⟨l, f, tmps, as, b, w', h1, h2.mono fun e w'' ⟨v, he, h⟩ => ⟨v, he, hk _ _ h⟩⟩
theorem sp_mono {P : Program} {o : Oper} {a : Act} {w : World} {K K' : Act → World → Prop} {Q Q' : Exit → Act → World → Prop} (hq : ∀ e a w, Q e a w → Q' e a w) (hk : ∀ a w, K a w → K' a w) (h : Oper.sp P o a w K Q) : Oper.sp P o a w K' Q' :=
  h.imp (fun h => h.imp (wp_mono2 hq hk) fun h => ⟨h.1, LetsOut.imp hq h.2⟩) (rnd_mono hk)
theorem sOp_mono2 {P : Program} {ops : Array Oper} {i : Nat} {a : Act} {w : World} {K K' : Act → World → Prop} {Q Q' : Exit → Act → World → Prop} (hq : ∀ e a w, Q e a w → Q' e a w) (hk : ∀ a w, K a w → K' a w) (h : sOp P ops Q i K a w) : sOp P ops Q' i K' a w := by
  unfold sOp at *
  cases ho : ops[i]? with
  | none => simp only [ho] at h ⊢; exact hk _ _ h
  | some o =>
    simp only [ho] at h ⊢
    split
    · rename_i hw
      rw [if_pos hw] at h
      exact sp_mono hq hk h
    · rename_i hw
      rw [if_neg hw] at h
      exact hk _ _ h
theorem sOp_mono {P : Program} {ops : Array Oper} {i : Nat} {a : Act} {w : World} {K K' : Act → World → Prop} {Q : Exit → Act → World → Prop} (hk : ∀ a w, K a w → K' a w) (h : sOp P ops Q i K a w) : sOp P ops Q i K' a w := sOp_mono2 (fun _ _ _ h => h) hk h
theorem sOps_mono {P : Program} {ops : Array Oper} {Q Q' : Exit → Act → World → Prop} (hq : ∀ e a w, Q e a w → Q' e a w) : ∀ {l : List Nat} {a : Act} {w : World}, sOps P ops Q l a w → sOps P ops Q' l a w
  | [], _, _, h => hq _ _ _ h
  | i :: rest, a, w, h => sOp_mono2 hq (fun _ _ h => sOps_mono hq h) h
theorem then_mono {K K' : Act → World → Prop} {Q Q' : Exit → Act → World → Prop} (hk : ∀ a w, K a w → K' a w) (hq : ∀ e a w, Q e a w → Q' e a w) : ∀ e a w, Exit.then K Q e a w → Exit.then K' Q' e a w := by
  intro e a w h
  cases e <;> first | exact hk _ _ h | exact hq _ _ _ h
theorem inBlock_mono {id : Nat} {Q Q' : Exit → Act → World → Prop} (hq : ∀ e a w, Q e a w → Q' e a w) : ∀ e a w, Exit.inBlock id Q e a w → Exit.inBlock id Q' e a w := by
  intro e a w h
  cases e with
  | exit id' =>
    have h' : if id' = id then Q .normal a w else Q (.exit id') a w := h
    show if id' = id then Q' .normal a w else Q' (.exit id') a w
    by_cases z : id' = id
    · rw [if_pos z] at h' ⊢; exact hq _ _ _ h'
    · rw [if_neg z] at h' ⊢; exact hq _ _ _ h'
  | normal => exact hq _ _ _ h
  | goto l => exact hq _ _ _ h
  | ret => exact hq _ _ _ h
  | panic c => exact hq _ _ _ h
  | outgrown => exact hq _ _ _ h
theorem noGoto_mono {Q Q' : Exit → Act → World → Prop} (hq : ∀ e a w, Q e a w → Q' e a w) : ∀ e a w, Exit.noGoto Q e a w → Exit.noGoto Q' e a w := by
  intro e a w h
  cases e <;> first | exact h.elim | exact hq _ _ _ h
theorem wpIn_scope {F : Fence} {n : Nat} {P : Program} {c : Code} {Q : Exit → Act → World → Prop} {a : Act} {w : World} (h : c.wpIn F n P (Exit.noGoto Q) a w) : (Code.scope c).wpIn F n P Q a w := by
  intro b k cs hro hb hr
  have h0 : (lone (b.atR a (.code (.scope c) :: k)) cs w).fenced P F := fenced_calm hb hr rfl
  have s0 : step P (lone (b.atR a (.code (.scope c) :: k)) cs w) = .next (lone (b.atR a (.code c :: .inScope c :: k)) cs w) := step_lone_go (by simp [stepG, stepG.exec, Frame.atR])
  obtain ⟨e, a₁, w₁, hq, harr⟩ := h b (.inScope c :: k) cs hro hb hr
  cases e with
  | normal => exact ⟨.normal, a₁, w₁, hq, .head h0 s0 (StepsIn.trans harr (.one (fenced_calm hb hr rfl) (step_lone_go (by simp [stepG, stepG.exec, Frame.atR]))))⟩
  | exit id' =>
    have hx : exitTo id' (.inScope c :: k) = exitTo id' k := by simp [exitTo]
    exact ⟨.exit id', a₁, w₁, hq, fun k' hk => .head h0 s0 (harr.1 k' (by rw [hx]; exact hk)),
      fun hr' hk => let ⟨k₁, h1, h2⟩ := harr.2 hr' (by rw [hx]; exact hk); ⟨k₁, h1, .head h0 s0 h2⟩⟩
  | goto l => exact hq.elim
  | ret => exact ⟨_, a₁, w₁, hq, .of_steps (.one h0 s0) harr⟩
  | panic ch => exact ⟨_, a₁, w₁, hq, .of_steps (.one h0 s0) harr⟩
  | outgrown => exact ⟨_, a₁, w₁, hq, .of_steps (.one h0 s0) harr⟩
theorem sw_mono {P : Program} : ∀ {c : Code} {Q Q' : Exit → Act → World → Prop} {a : Act} {w : World}, (∀ e a w, Q e a w → Q' e a w) → sw P c Q a w → sw P c Q' a w
  | .region _ ops draw, Q, Q', a, w, hq, h => by
    unfold sw at *
    split
    · rename_i hd; rw [if_pos hd] at h; exact fun t => sOps_mono hq (h t)
    · rename_i hd; rw [if_neg hd] at h; exact sOps_mono hq h
  | .seq x y, Q, Q', a, w, hq, h => by
    unfold sw at *
    exact sw_mono (then_mono (fun _ _ h => sw_mono hq h) hq) h
  | .cond c x y, Q, Q', a, w, hq, h => by
    unfold sw at *
    obtain ⟨b, hb, h1, h2⟩ := h
    exact ⟨b, hb, fun e => sw_mono hq (h1 e), fun e => sw_mono hq (h2 e)⟩
  | .block id c, Q, Q', a, w, hq, h => by
    unfold sw at *
    exact sw_mono (inBlock_mono hq) h
  | .loop c, Q, Q', a, w, hq, h => by
    unfold sw at *
    obtain ⟨I, k0, h0, h⟩ := h
    exact ⟨I, k0, h0, fun k a w hi => sw_mono (then_mono (fun _ _ h => h) hq) (h k a w hi)⟩
  | .skip, Q, Q', a, w, hq, h => by unfold sw at *; exact hq _ _ _ h
  | .exit id, Q, Q', a, w, hq, h => by unfold sw at *; exact hq _ _ _ h
  | .ret, Q, Q', a, w, hq, h => by unfold sw at *; exact hq _ _ _ h
  | .rangeFunc .., _, _, _, _, _, h => by unfold sw at h; exact h.elim
  | .scope c, Q, Q', a, w, hq, h => by unfold sw at *; exact sw_mono (noGoto_mono hq) h
  | .label _, Q, Q', a, w, hq, h => by unfold sw at *; exact hq _ _ _ h
  | .goto .., _, _, _, _, _, h => by unfold sw at h; exact h.elim
  | .refuse .., _, _, _, _, _, h => by unfold sw at h; exact h.elim

/-! Inside a fence that is wide, in a round or outside, with deferred calls. -/
def widR (r : Option Nat) : Fence := { Fence.wide with round := r }
def actD (D : List Deferred) (a : Act) : Act := { a with defers := a.defers ++ D }
def postD (D : List Deferred) (Q : Exit → Act → World → Prop) (e : Exit) (a : Act) (w : World) : Prop := ∃ b, a = actD D b ∧ Q e b w
theorem actD_eval (D : List Deferred) (a : Act) : (actD D a).eval = a.eval := by funext x; cases x <;> rfl
theorem actD_put (D : List Deferred) (a : Act) (d : Option Tmp) (v : Value) : (actD D a).put d v = actD D (a.put d v) := by cases d <;> rfl
def noDefer : Code → Bool
  | .region _ ops _ => ops.toList.all fun o => match o.op with | .defer _ => false | _ => true
  | .seq a b => noDefer a && noDefer b
  | .cond _ a b => noDefer a && noDefer b
  | .block _ c => noDefer c
  | .loop c => noDefer c
  | .scope c => noDefer c
  | _ => true
def calmOp (o : Oper) : Bool := match o.op with | .defer _ => false | _ => true
theorem semAt_plain {r : Option Nat} {ρ : Operand → Value} {o : Oper} (h : r = none ∨ calmOp o = true) : Oper.semAt r ρ o = execOp ρ o := by
  cases r with
  | none => exact Oper.semAt_none ρ o
  | some l => exact Oper.semAt_some l ρ o fun c e => by rcases h with h | h; cases h; unfold calmOp at h; rw [e] at h; cases h
theorem callsIn_widR {r : Option Nat} {m : Nat} {P : Program} {f : FuncId} {args : Array Value} {w : World} {R : Ending → World → Prop} (h : Calls P f args w R) : CallsIn (widR r) m P f args w R :=
  let z : CallsIn Fence.wide m P f args w R := callsIn_wide.2 h
  z
theorem roundIn_widR {r : Option Nat} {m : Nat} {P : Program} {l f : Nat} {tmps : Array Value} {as b : Code} {w : World} {R : Ending → World → Prop} (h : RoundIn Fence.wide 0 P l f tmps as b w R) : RoundIn (widR r) m P l f tmps as b w R :=
  ⟨trivial, fun c cs hr => h.2 c cs (room_wide _)⟩
theorem rowsIn_widR {r : Option Nat} {m : Nat} {P : Program} {row : String} {args : Array Value} {w : World} {R : Value → World → Prop} (h : Rows P row args w R) : RowsIn (widR r) m P row args w R :=
  fun c cs _ => let ⟨v, w', hr, hs⟩ := h c cs; ⟨v, w', hr, stepsIn_wide.2 hs⟩
theorem uponIn_widR {P : Program} {r : Option Nat} {m : Nat} {D : List Deferred} {o : Oper} {a : Act} {K : Act → World → Prop} {K' : Act → World → Prop} {Q : Exit → Act → World → Prop} {x : Result Next} (hQ : ¬ LetsOut Q) (hk : ∀ a w, K a w → K' (actD D a) w)
    (h : o.upon P a K Q x) : o.uponIn (widR r) m P (actD D a) K' (postD D Q) x := by
  cases x with
  | ok x w' =>
    cases x <;> simp only [Oper.upon, Oper.uponIn] at h ⊢ <;> first
      | (rw [actD_put]; exact hk _ _ h)
      | exact h.elim
      | (have := hk _ _ h
         rw [← actD_put] at this
         exact this)
      | (refine ⟨(fun h => nomatch h), callsIn_widR (Calls.mono h fun e w'' h => ?_)⟩
         cases e with
         | returned v => show K' ((actD D a).put o.dst v) w''; rw [actD_put]; exact hk _ _ h
         | panicked c => exact ⟨a, rfl, h⟩
         | outgrown => exact absurd h hQ)
      | exact ⟨(fun h => nomatch h), rowsIn_widR (Rows.mono h fun v w'' h => by rw [actD_put]; exact hk _ _ h)⟩
  | halt x w' => cases x <;> simp only [Oper.upon, Oper.uponIn] at h ⊢ <;> first | exact ⟨a, rfl, h⟩ | exact h.elim
theorem sOps_in {P : Program} {r : Option Nat} {m : Nat} {D : List Deferred} {ops : Array Oper} {Q : Exit → Act → World → Prop} (hQ : ¬ LetsOut Q) (hn : r = none ∨ (ops.toList.all fun o => match o.op with | .defer _ => false | _ => true) = true) :
    ∀ {l : List Nat} {a : Act} {w : World}, sOps P ops Q l a w → wpOpsIn (widR r) m P ops (postD D Q) l (actD D a) w
  | [], a, _, h => ⟨a, rfl, h⟩
  | i :: rest, a, w, h => by
    unfold sOps sOp at h
    unfold wpOpsIn
    cases ho : ops[i]? with
    | none => simp only [ho] at h ⊢; exact sOps_in hQ hn h
    | some o =>
      simp only [ho] at h ⊢
      have hd : r = none ∨ calmOp o = true := hn.imp id fun hn => by
        rw [List.all_eq_true] at hn
        exact hn o (by have := Array.mem_of_getElem? ho; simpa using this)
      have ht : (actD D a).tmps = a.tmps := rfl
      rw [ht]
      split
      · rename_i hw
        rw [if_pos hw] at h
        refine ⟨fun _ _ => trivial, ?_⟩
        show Oper.uponIn (widR r) m P o (actD D a) _ _ (Sem.run P (Oper.semAt r (actD D a).eval o) w)
        rw [semAt_plain hd, actD_eval]
        rcases h with (h | h) | h
        · exact uponIn_widR hQ (fun a w h => sOps_in hQ hn h) h
        · exact absurd h.2 hQ
        · obtain ⟨l, f, tmps, as, b, w', h1, h2⟩ := h
          rw [h1]
          refine ⟨(fun h => nomatch h), roundIn_widR (h2.mono fun e w'' ⟨v, he, hk⟩ => ?_)⟩
          subst he
          show wpOpsIn _ _ _ _ _ _ ((actD D a).put o.dst v) w''
          rw [actD_put]; exact sOps_in hQ hn hk
      · rename_i hw
        rw [if_neg hw] at h
        exact ⟨fun _ _ => trivial, by rw [actD_put]; exact sOps_in hQ hn h⟩
theorem sw_in {P : Program} {r : Option Nat} {m : Nat} {D : List Deferred} : ∀ {c : Code} {Q : Exit → Act → World → Prop} {a : Act} {w : World}, (r = none ∨ noDefer c = true) → ¬ LetsOut Q → sw P c Q a w → c.wpIn (widR r) m P (postD D Q) (actD D a) w
  | .region _ ops draw, Q, a, w, hn, hQ, h => by
    unfold sw at h
    cases draw with
    | true => rw [if_pos rfl] at h; exact wpIn_region_draw fun t => sOps_in hQ hn (h t)
    | false => rw [if_neg (by decide)] at h; exact wpIn_region (sOps_in hQ hn h)
  | .seq x y, Q, a, w, hn, hQ, h => by
    unfold sw at h
    have hn1 : r = none ∨ noDefer x = true := hn.imp id fun h => by unfold noDefer at h; rw [Bool.and_eq_true] at h; exact h.1
    have hn2 : r = none ∨ noDefer y = true := hn.imp id fun h => by unfold noDefer at h; rw [Bool.and_eq_true] at h; exact h.2
    refine wpIn_seq (wpIn_mono (sw_in (m := m) (Q := Exit.then (sw P y Q) Q) hn1 (fun ⟨a, w, h⟩ => hQ ⟨a, w, h⟩) h) fun e a' w' ⟨b, hb, hq⟩ => ?_)
    subst hb
    cases e with
    | normal => exact sw_in (m := m) hn2 hQ hq
    | exit id => exact ⟨b, rfl, hq⟩
    | goto l => exact ⟨b, rfl, hq⟩
    | ret => exact ⟨b, rfl, hq⟩
    | panic c => exact ⟨b, rfl, hq⟩
    | outgrown => exact ⟨b, rfl, hq⟩
  | .cond c x y, Q, a, w, hn, hQ, h => by
    unfold sw at h
    have hn1 : r = none ∨ noDefer x = true := hn.imp id fun h => by unfold noDefer at h; rw [Bool.and_eq_true] at h; exact h.1
    have hn2 : r = none ∨ noDefer y = true := hn.imp id fun h => by unfold noDefer at h; rw [Bool.and_eq_true] at h; exact h.2
    obtain ⟨b, hb, h1, h2⟩ := h
    exact wpIn_cond_split (t := b) (by rw [actD_eval]; exact hb) (fun e => sw_in hn1 hQ (h1 e)) (fun e => sw_in hn2 hQ (h2 e))
  | .block id c, Q, a, w, hn, hQ, h => by
    unfold sw at h
    refine wpIn_block (wpIn_mono (sw_in (m := m) (Q := Exit.inBlock id Q) hn (fun ⟨a, w, h⟩ => hQ ⟨a, w, h⟩) h) fun e a' w' ⟨b, hb, hq⟩ => ?_)
    subst hb
    cases e with
    | exit id' =>
      show if id' = id then postD D Q .normal (actD D b) w' else postD D Q (.exit id') (actD D b) w'
      have hq' : if id' = id then Q .normal b w' else Q (.exit id') b w' := hq
      split <;> rename_i e
      · rw [if_pos e] at hq'; exact ⟨b, rfl, hq'⟩
      · rw [if_neg e] at hq'; exact ⟨b, rfl, hq'⟩
    | normal => exact ⟨b, rfl, hq⟩
    | goto l => exact ⟨b, rfl, hq⟩
    | ret => exact ⟨b, rfl, hq⟩
    | panic c => exact ⟨b, rfl, hq⟩
    | outgrown => exact ⟨b, rfl, hq⟩
  | .loop c, Q, a, w, hn, hQ, h => by
    unfold sw at h
    obtain ⟨I, k0, h0, h⟩ := h
    refine wpIn_loop_ghost (fun k a w => ∃ b, a = actD D b ∧ I k b w) k0 ⟨a, rfl, h0⟩ ?_
    rintro k a w ⟨b, rfl, hi⟩
    refine wpIn_mono (sw_in (m := m) (Q := Exit.then (fun a' w' => ∃ k', k' < k ∧ I k' a' w') Q) hn (fun ⟨a, w, h⟩ => hQ ⟨a, w, h⟩) (h k b w hi)) fun e a' w' ⟨b', hb, hq⟩ => ?_
    subst hb
    cases e with
    | normal => obtain ⟨k', hk, hi'⟩ := hq; exact ⟨k', hk, b', rfl, hi'⟩
    | exit id => exact ⟨b', rfl, hq⟩
    | goto l => exact ⟨b', rfl, hq⟩
    | ret => exact ⟨b', rfl, hq⟩
    | panic c => exact ⟨b', rfl, hq⟩
    | outgrown => exact ⟨b', rfl, hq⟩
  | .skip, Q, a, w, hn, hQ, h => by unfold sw at h; exact wpIn_skip ⟨a, rfl, h⟩
  | .exit id, Q, a, w, hn, hQ, h => by unfold sw at h; exact wpIn_exit ⟨a, rfl, h⟩
  | .ret, Q, a, w, hn, hQ, h => by unfold sw at h; exact wpIn_ret ⟨a, rfl, h⟩
  | .rangeFunc .., _, _, _, _, _, h => by unfold sw at h; exact h.elim
  | .scope c, Q, a, w, hn, hQ, h => by
    unfold sw at h
    refine wpIn_scope (wpIn_mono (sw_in (m := m) (Q := Exit.noGoto Q) hn (fun ⟨a, w, h⟩ => hQ ⟨a, w, h⟩) h) fun e a' w' ⟨b, hb, hq⟩ => ?_)
    subst hb
    cases e with
    | goto l => exact hq.elim
    | normal => exact ⟨b, rfl, hq⟩
    | exit id => exact ⟨b, rfl, hq⟩
    | ret => exact ⟨b, rfl, hq⟩
    | panic c => exact ⟨b, rfl, hq⟩
    | outgrown => exact ⟨b, rfl, hq⟩
  | .label _, Q, a, w, hn, hQ, h => by unfold sw at h; exact wpIn_label ⟨a, rfl, h⟩
  | .goto .., _, _, _, _, _, h => by unfold sw at h; exact h.elim
  | .refuse .., _, _, _, _, _, h => by unfold sw at h; exact h.elim
theorem actD_nil (a : Act) : actD [] a = a := by cases a; simp [actD]

structure WP (P : Program) (n : Nat) (c : Code) (Q : Post) (σ : Nat → Value) (w : World) : Prop where mk :: (out : sw P c (lift n Q) (Fr n σ) w)
/-- What one operation comes to. -/
structure Runs (P : Program) (ρ : Operand → Value) (o : Oper) (w : World) (r : Result Next) : Prop where mk :: (out : (execOp ρ o).run P w = r)

section
variable {P : Program} {n : Nat} {ops : Array Oper} {Q : Post} {σ : Nat → Value} {w w' : World} {o : Oper} {rest : List Oper} {v : Value}

theorem wl_nil (h : Q .normal σ w) : wl P n ops Q [] σ w := ⟨⟨σ, rfl, h⟩⟩

theorem st_val (hw : wantS o ops n σ = true) (hrun : Runs P (opv (cut n σ)) o w (.ok (.value v) w'))
    (k : wl P n ops Q rest (updO σ o.dst v) w') : wl P n ops Q (o :: rest) σ w := by
  refine ⟨?_⟩
  unfold sList
  rw [if_pos (by rw [yielded_eq]; exact hw)]
  left
  left
  unfold Oper.wp
  rw [Fr_eval, hrun.out, Oper.upon_value, Fr_put]
  exact k.out

/-- A slot takes another slot's value: told once. -/
def mv (σ : Nat → Value) (n : Nat) (d : Nat) (x : Operand) (t : Nat) : Value := bif Nat.beq t d then opv (cut n σ) x else σ t
theorem mv_eq (σ : Nat → Value) (n d : Nat) (x : Operand) : mv σ n d x = upd σ d (opv (cut n σ) x) := rfl
theorem st_move {d : Nat} {x : Operand} {ty : TypeId} {pos : String} {af : Array Edge} {g : Option (Nat × Bool)} (hw : wantS ⟨some d, .move x, ty, pos, af, g⟩ ops n σ = true)
    (k : wl P n ops Q rest (mv σ n d x) w) : wl P n ops Q (⟨some d, .move x, ty, pos, af, g⟩ :: rest) σ w := st_val (v := opv (cut n σ) x) hw ⟨rfl⟩ k
theorem st_assign {d : Nat} {x : Operand} {ty : TypeId} {pos : String} {af : Array Edge} {g : Option (Nat × Bool)} (hw : wantS ⟨some d, .assign x, ty, pos, af, g⟩ ops n σ = true)
    (k : wl P n ops Q rest (mv σ n d x) w) : wl P n ops Q (⟨some d, .assign x, ty, pos, af, g⟩ :: rest) σ w := st_val (v := opv (cut n σ) x) hw ⟨rfl⟩ k
theorem st_pickT {d : Nat} {c a b : Operand} {ty : TypeId} {pos : String} {af : Array Edge} {g : Option (Nat × Bool)} (hw : wantS ⟨some d, .pick c a b, ty, pos, af, g⟩ ops n σ = true) (hc : opv (cut n σ) c = .bool true)
    (k : wl P n ops Q rest (mv σ n d a) w) : wl P n ops Q (⟨some d, .pick c a b, ty, pos, af, g⟩ :: rest) σ w := st_val (v := opv (cut n σ) a) hw ⟨by simp [execOp, hc, asBool, pure, bind, Sem.bind]⟩ k
theorem st_pickF {d : Nat} {c a b : Operand} {ty : TypeId} {pos : String} {af : Array Edge} {g : Option (Nat × Bool)} (hw : wantS ⟨some d, .pick c a b, ty, pos, af, g⟩ ops n σ = true) (hc : opv (cut n σ) c = .bool false)
    (k : wl P n ops Q rest (mv σ n d b) w) : wl P n ops Q (⟨some d, .pick c a b, ty, pos, af, g⟩ :: rest) σ w := st_val (v := opv (cut n σ) b) hw ⟨by simp [execOp, hc, asBool, pure, bind, Sem.bind]⟩ k

theorem st_skip (hw : wantS o ops n σ = true) (hrun : Runs P (opv (cut n σ)) o w (.ok .skip w'))
    (k : wl P n ops Q rest (updO σ o.dst undef) w') : wl P n ops Q (o :: rest) σ w := by
  refine ⟨?_⟩
  unfold sList
  rw [if_pos (by rw [yielded_eq]; exact hw)]
  left
  left
  unfold Oper.wp
  rw [Fr_eval, hrun.out, Oper.upon_skip, Fr_put]
  exact k.out

theorem st_off (hw : wantS o ops n σ = false) (k : wl P n ops Q rest (updO σ o.dst undef) w) : wl P n ops Q (o :: rest) σ w := by
  refine ⟨?_⟩
  unfold sList
  rw [if_neg (by rw [yielded_eq]; exact fun h => by rw [show Region.wanted o (yS ops n σ) = wantS o ops n σ from rfl, hw] at h; cases h), Fr_put]
  exact k.out

theorem st_enter {f : FuncId} {args : Array Value} {R : Ending → World → Prop} (hw : wantS o ops n σ = true) (hrun : Runs P (opv (cut n σ)) o w (.ok (.enter f args) w'))
    (hc : Calls P f args w' R) (k : ∀ e w1, R e w1 → ∃ v, e = .returned v ∧ wl P n ops Q rest (updO σ o.dst v) w1) : wl P n ops Q (o :: rest) σ w := by
  refine ⟨?_⟩
  unfold sList
  rw [if_pos (by rw [yielded_eq]; exact hw)]
  left
  left
  unfold Oper.wp
  rw [Fr_eval, hrun.out, Oper.upon_enter]
  refine hc.mono fun e w1 hR => ?_
  obtain ⟨v, rfl, hk⟩ := k e w1 hR
  show sList P ops (lift n Q) rest ((Fr n σ).put o.dst v) w1
  rw [Fr_put]
  exact hk.out

/-- A round of a range. -/
theorem st_round {l f : Nat} {tmps : Array Value} {as b : Code} {R : Value → World → Prop} (hw : wantS o ops n σ = true) (hrun : Runs P (opv (cut n σ)) o w (.ok (.round l f tmps as b) w'))
    (hc : RoundIn Fence.wide 0 P l f tmps as b w' fun e w'' => ∃ v, e = .returned v ∧ R v w'') (k : ∀ v w1, R v w1 → wl P n ops Q rest (updO σ o.dst v) w1) : wl P n ops Q (o :: rest) σ w := by
  refine ⟨?_⟩
  unfold sList
  rw [if_pos (by rw [yielded_eq]; exact hw)]
  right
  exact ⟨l, f, tmps, as, b, w', by rw [Fr_eval]; exact hrun.out, hc.mono fun e w'' ⟨v, he, hR⟩ => ⟨v, he, by rw [Fr_put]; exact (k v w'' hR).out⟩⟩

theorem cut_bool {n : Nat} {σ : Nat → Value} {s : Nat} {b : Bool} (h : cut n σ s = .bool b) : σ s = .bool b := by
  by_cases hs : s < n
  · rwa [cut_lt hs] at h
  · rw [cut_ge hs] at h; cases h
/-- Two ways: a test's value, told in its slot. -/
theorem wl_split {s j : Nat} {want b : Bool} {d : Option Tmp} {op : Op} {ty : TypeId} {pos : String} {af : Array Edge} (hd : (ops[j]?).bind (·.dst) = some s) (hv : cut n σ s = .bool b)
    (h1 : b = true → wl P n ops Q (⟨d, op, ty, pos, af, some (j, want)⟩ :: rest) (upd σ s (.bool true)) w) (h2 : b = false → wl P n ops Q (⟨d, op, ty, pos, af, some (j, want)⟩ :: rest) (upd σ s (.bool false)) w) : wl P n ops Q (⟨d, op, ty, pos, af, some (j, want)⟩ :: rest) σ w := by
  have h := cut_bool hv
  cases b
  · have := h2 rfl; rwa [upd_self h] at this
  · have := h1 rfl; rwa [upd_self h] at this
theorem wl_splitPick {s : Nat} {b : Bool} {d : Option Tmp} {x y : Operand} {ty : TypeId} {pos : String} {af : Array Edge} {g : Option (Nat × Bool)} (hv : cut n σ s = .bool b)
    (h1 : b = true → wl P n ops Q (⟨d, .pick (.tmp s) x y, ty, pos, af, g⟩ :: rest) (upd σ s (.bool true)) w) (h2 : b = false → wl P n ops Q (⟨d, .pick (.tmp s) x y, ty, pos, af, g⟩ :: rest) (upd σ s (.bool false)) w) : wl P n ops Q (⟨d, .pick (.tmp s) x y, ty, pos, af, g⟩ :: rest) σ w := by
  have h := cut_bool hv
  cases b
  · have := h2 rfl; rwa [upd_self h] at this
  · have := h1 rfl; rwa [upd_self h] at this
/-- A call under a contract that names the value. -/
structure CallsV (P : Program) (f : FuncId) (args : Array Value) (w : World) (v : Value) : Prop where mk :: (out : Calls P f args w fun e w' => e = .returned v ∧ Below w.heap.size w w')

theorem st_callV {f : FuncId} {args : Array Value} (hw : wantS o ops n σ = true) (hrun : Runs P (opv (cut n σ)) o w (.ok (.enter f args) w))
    (hc : CallsV P f args w v) (k : ∀ w1, Below w.heap.size w w1 → wl P n ops Q rest (updO σ o.dst v) w1) : wl P n ops Q (o :: rest) σ w :=
  st_enter hw hrun hc.out fun _ w1 ⟨he, hb⟩ => ⟨v, he, k w1 hb⟩

/-! ### Regions -/
theorem WP_region {id : Nat} {l : List Oper} (h : wl P n l.toArray Q l σ w) : WP P n (.region id l.toArray false) Q σ w := ⟨by
  unfold sw
  rw [if_neg (by decide)]
  rw [List.range_eq_range', ← Array.length_toList, sOps_eq_sList l.toArray.toList 0 (by simp)]
  simpa using h.out⟩

/-- A region that draws its order: one walk in the text's order; each operation in every world that has grown out of the region's first one. -/
def quietG (P : Program) (o : Oper) (a : Act) (w : World) (v : Value) : Prop :=
  match (execOp a.eval o).run P w with
  | .ok (.value u) w' => w' = w ∧ u = v
  | .ok .skip w' => w' = w ∧ v = undef
  | .ok (.enter f args) w' => w' = w ∧ Calls P f args w fun e w'' => e = .returned v ∧ Below w.heap.size w w''
  | _ => False
def wpQ (P : Program) (ops : Array Oper) (C : World) (K : Act → Prop) : List Oper → Act → Prop
  | [], a => K a
  | o :: rest, a => if Region.wanted o (yielded ops a.tmps) = true then ∃ v, (∀ w, Below C.heap.size C w → quietG P o a w v) ∧ wpQ P ops C K rest (a.put o.dst v) else wpQ P ops C K rest (a.put o.dst undef)
structure ql (P : Program) (n : Nat) (ops : Array Oper) (C : World) (K : (Nat → Value) → Prop) (l : List Oper) (σ : Nat → Value) : Prop where mk :: (out : wpQ P ops C (fun a => ∃ σ', a = Fr n σ' ∧ K σ') l (Fr n σ))
variable {C : World} {K : (Nat → Value) → Prop}

theorem ql_nil (h : K σ) : ql P n ops C K [] σ := ⟨⟨σ, rfl, h⟩⟩

theorem q_val (hw : wantS o ops n σ = true) (hrun : ∀ w', Below C.heap.size C w' → Runs P (opv (cut n σ)) o w' (.ok (.value v) w'))
    (k : ql P n ops C K rest (updO σ o.dst v)) : ql P n ops C K (o :: rest) σ := by
  refine ⟨?_⟩
  unfold wpQ
  rw [if_pos (by rw [yielded_eq]; exact hw)]
  refine ⟨v, fun w' hC => ?_, by rw [Fr_put]; exact k.out⟩
  unfold quietG
  rw [Fr_eval, (hrun w' hC).out]
  exact ⟨rfl, rfl⟩

theorem q_move {d : Nat} {x : Operand} {ty : TypeId} {pos : String} {af : Array Edge} {g : Option (Nat × Bool)} (hw : wantS ⟨some d, .move x, ty, pos, af, g⟩ ops n σ = true)
    (k : ql P n ops C K rest (mv σ n d x)) : ql P n ops C K (⟨some d, .move x, ty, pos, af, g⟩ :: rest) σ := q_val (v := opv (cut n σ) x) hw (fun _ _ => ⟨rfl⟩) k
theorem q_assign {d : Nat} {x : Operand} {ty : TypeId} {pos : String} {af : Array Edge} {g : Option (Nat × Bool)} (hw : wantS ⟨some d, .assign x, ty, pos, af, g⟩ ops n σ = true)
    (k : ql P n ops C K rest (mv σ n d x)) : ql P n ops C K (⟨some d, .assign x, ty, pos, af, g⟩ :: rest) σ := q_val (v := opv (cut n σ) x) hw (fun _ _ => ⟨rfl⟩) k
theorem q_pickT {d : Nat} {c a b : Operand} {ty : TypeId} {pos : String} {af : Array Edge} {g : Option (Nat × Bool)} (hw : wantS ⟨some d, .pick c a b, ty, pos, af, g⟩ ops n σ = true) (hc : opv (cut n σ) c = .bool true)
    (k : ql P n ops C K rest (mv σ n d a)) : ql P n ops C K (⟨some d, .pick c a b, ty, pos, af, g⟩ :: rest) σ := q_val (v := opv (cut n σ) a) hw (fun _ _ => ⟨by simp [execOp, hc, asBool, pure, bind, Sem.bind]⟩) k
theorem q_pickF {d : Nat} {c a b : Operand} {ty : TypeId} {pos : String} {af : Array Edge} {g : Option (Nat × Bool)} (hw : wantS ⟨some d, .pick c a b, ty, pos, af, g⟩ ops n σ = true) (hc : opv (cut n σ) c = .bool false)
    (k : ql P n ops C K rest (mv σ n d b)) : ql P n ops C K (⟨some d, .pick c a b, ty, pos, af, g⟩ :: rest) σ := q_val (v := opv (cut n σ) b) hw (fun _ _ => ⟨by simp [execOp, hc, asBool, pure, bind, Sem.bind]⟩) k

theorem q_off (hw : wantS o ops n σ = false) (k : ql P n ops C K rest (updO σ o.dst undef)) : ql P n ops C K (o :: rest) σ := by
  refine ⟨?_⟩
  unfold wpQ
  rw [if_neg (by rw [yielded_eq]; exact fun h => by rw [show Region.wanted o (yS ops n σ) = wantS o ops n σ from rfl, hw] at h; cases h), Fr_put]
  exact k.out

theorem ql_split {s j : Nat} {want b : Bool} {d : Option Tmp} {op : Op} {ty : TypeId} {pos : String} {af : Array Edge} (hd : (ops[j]?).bind (·.dst) = some s) (hv : cut n σ s = .bool b)
    (h1 : b = true → ql P n ops C K (⟨d, op, ty, pos, af, some (j, want)⟩ :: rest) (upd σ s (.bool true))) (h2 : b = false → ql P n ops C K (⟨d, op, ty, pos, af, some (j, want)⟩ :: rest) (upd σ s (.bool false))) : ql P n ops C K (⟨d, op, ty, pos, af, some (j, want)⟩ :: rest) σ := by
  have h := cut_bool hv
  cases b
  · have := h2 rfl; rwa [upd_self h] at this
  · have := h1 rfl; rwa [upd_self h] at this
theorem ql_splitPick {s : Nat} {b : Bool} {d : Option Tmp} {x y : Operand} {ty : TypeId} {pos : String} {af : Array Edge} {g : Option (Nat × Bool)} (hv : cut n σ s = .bool b)
    (h1 : b = true → ql P n ops C K (⟨d, .pick (.tmp s) x y, ty, pos, af, g⟩ :: rest) (upd σ s (.bool true))) (h2 : b = false → ql P n ops C K (⟨d, .pick (.tmp s) x y, ty, pos, af, g⟩ :: rest) (upd σ s (.bool false))) : ql P n ops C K (⟨d, .pick (.tmp s) x y, ty, pos, af, g⟩ :: rest) σ := by
  have h := cut_bool hv
  cases b
  · have := h2 rfl; rwa [upd_self h] at this
  · have := h1 rfl; rwa [upd_self h] at this
theorem q_callV {f : FuncId} {args : Array Value} (hw : wantS o ops n σ = true) (hrun : ∀ w', Below C.heap.size C w' → Runs P (opv (cut n σ)) o w' (.ok (.enter f args) w'))
    (hc : ∀ w', Below C.heap.size C w' → CallsV P f args w' v) (k : ql P n ops C K rest (updO σ o.dst v)) : ql P n ops C K (o :: rest) σ := by
  refine ⟨?_⟩
  unfold wpQ
  rw [if_pos (by rw [yielded_eq]; exact hw)]
  refine ⟨v, fun w' hC => ?_, by rw [Fr_put]; exact k.out⟩
  unfold quietG
  rw [Fr_eval, (hrun w' hC).out]
  exact ⟨rfl, (hc w' hC).out⟩

theorem sched_any {P : Program} {ops : Array Oper} {Q : Exit → Act → World → Prop} {a : Act} {w : World} (hm : P.follows .mixedOrders = true) (h : wpAny P .any ops Q ops.size (Array.replicate ops.size false) a w) (t : Nat) : wpOps P ops Q (Region.schedule (P.follows .mixedOrders) ops t) a w := by
  simp only [Region.schedule, hm, Bool.true_or, if_true]
  exact wpAny_sound ops.size t _ a _ h
/-- Any order. -/
def sAny (P : Program) (md : Region.Mode) (ops : Array Oper) (Q : Exit → Act → World → Prop) : Nat → Array Bool → Act → World → Prop
  | 0, listed, a, w => Region.ready md ops listed = [] ∧ Q .normal a w
  | fuel + 1, listed, a, w =>
    (Region.ready md ops listed = [] → Q .normal a w) ∧
    ∀ i ∈ Region.ready md ops listed, sOp P ops Q i (sAny P md ops Q fuel (listed.setIfInBounds i true)) a w
theorem sAny_sound {P : Program} {md : Region.Mode} {ops : Array Oper} {Q : Exit → Act → World → Prop} : ∀ (fuel t : Nat) (listed : Array Bool) (a : Act) (w : World), sAny P md ops Q fuel listed a w → sOps P ops Q (Region.linearise.go md ops fuel t listed []) a w
  | 0, t, listed, a, w, h => by simpa [Region.linearise.go, sOps] using h.2
  | fuel + 1, t, listed, a, w, h => by
    have hgo : Region.linearise.go md ops (fuel + 1) t listed [] = match (Region.ready md ops listed)[t % (Region.ready md ops listed).length]? with
      | some i => Region.linearise.go md ops fuel (t / (Region.ready md ops listed).length) (listed.setIfInBounds i true) [i]
      | none => [] := rfl
    rw [hgo]
    cases hi : (Region.ready md ops listed)[t % (Region.ready md ops listed).length]? with
    | none =>
      have hnil : Region.ready md ops listed = [] := by
        by_cases hr : Region.ready md ops listed = []
        · exact hr
        · have hp : 0 < (Region.ready md ops listed).length := List.length_pos_iff.2 hr
          rw [List.getElem?_eq_getElem (Nat.mod_lt _ hp)] at hi
          cases hi
      exact h.1 hnil
    | some i =>
      have hmem := List.mem_of_getElem? hi
      have := sOp_mono (fun a w h => sAny_sound fuel (t / (Region.ready md ops listed).length) _ a w h) (h.2 i hmem)
      show sOps P ops Q (Region.linearise.go md ops fuel _ _ [i]) a w
      rw [linearise_go_acc, List.reverse_singleton, List.singleton_append, sOps]
      exact this
theorem sw_any {P : Program} {id : Nat} {ops : Array Oper} {Q : Exit → Act → World → Prop} {a : Act} {w : World} (hm : P.follows .mixedOrders = true) (h : sAny P .any ops Q ops.size (Array.replicate ops.size false) a { w with drawn := w.drawn + 1 }) : sw P (.region id ops true) Q a w := by
  unfold sw
  rw [if_pos rfl]
  intro t
  simp only [Region.schedule, hm, Bool.true_or, if_true]
  exact sAny_sound ops.size t _ a _ h
theorem quietAt_of {o : Oper} {a : Act} {w : World} {v : Value} (hw : Below C.heap.size C w) (h : quietG P o a w v) : o.quietAt P a (Below C.heap.size C) w v := by
  unfold quietG at h
  unfold Oper.quietAt
  generalize (execOp a.eval o).run P w = r at *
  cases r with
  | ok n w' =>
    cases n <;> simp only [Oper.quietUpon] at h ⊢ <;> try exact h
    case enter f args => exact ⟨h.1, h.2.mono fun e w'' ⟨he, hb⟩ => ⟨he, hw.trans (hb.mono hw.size)⟩⟩
  | halt x w' => exact h

theorem WP_draw {id : Nat} {l : List Oper} (hm : P.follows .mixedOrders = true) (hB : Region.lexB .any l.toArray = true)
    (h : ql P n l.toArray w (fun σ' => ∀ w', Below w.heap.size w w' → Q .normal σ' w') l σ) : WP P n (.region id l.toArray true) Q σ w := by
  refine ⟨?_⟩
  unfold sw
  rw [if_pos rfl]
  simp only [Region.lexB, Bool.and_eq_true] at hB
  refine fun t => sOps_of (sched_any hm (wpAny_of_quiet (Q := fun a' => ∀ w', Below w.heap.size w w' → lift n Q .normal a' w') (C := Below w.heap.size w) (fun _ w' hw' h => h w' hw') _ _ _ { w with drawn := w.drawn + 1 } ⟨rfl, rfl, rfl, Nat.le_refl _, fun _ _ => rfl⟩ ?_) t)
  have key : wpQuiet P l.toArray (Below w.heap.size w) (fun a' => ∀ w', Below w.heap.size w w' → lift n Q .normal a' w') l (Fr n σ) → _ := fun h => wpAnyQ_lex (P := P) (C := Below w.heap.size w) (md := .any) hB.1 l.toArray.toList 0 (Array.replicate l.toArray.size false) (Fr n σ) (by simp) (by simpa using hB.2) (by simpa using h)
  have h' := h.out
  have mono : ∀ (l' : List Oper) (a : Act), wpQ P l.toArray w (fun a => ∃ σ', a = Fr n σ' ∧ ∀ w', Below w.heap.size w w' → Q .normal σ' w') l' a →
      wpQuiet P l.toArray (Below w.heap.size w) (fun a' => ∀ w', Below w.heap.size w w' → lift n Q .normal a' w') l' a := by
    intro l'
    induction l' with
    | nil => rintro a ⟨σ', rfl, hq⟩ w' hw'; exact ⟨σ', rfl, hq w' hw'⟩
    | cons o r ih =>
      intro a ha
      unfold wpQ at ha
      unfold wpQuiet
      split
      · rename_i hw; rw [if_pos hw] at ha; obtain ⟨v, h1, h2⟩ := ha; exact ⟨v, fun w' hw' => quietAt_of hw' (h1 w' hw'), ih _ h2⟩
      · rename_i hw; rw [if_neg hw] at ha; exact ih _ ha
  have z := key (mono l _ h')
  simpa using z

/-! ### Code -/
def thenD (k : (Nat → Value) → World → Prop) (Q : Post) : Post
  | .normal, σ, w => k σ w
  | e, σ, w => Q e σ w
def inD (id : Nat) (Q : Post) : Post
  | .exit id', σ, w => bif Nat.beq id' id then Q .normal σ w else Q (.exit id') σ w
  | e, σ, w => Q e σ w
structure thenQ (k : (Nat → Value) → World → Prop) (Q : Post) (e : Exit) (σ : Nat → Value) (w : World) : Prop where mk :: (out : thenD k Q e σ w)
structure inB (id : Nat) (Q : Post) (e : Exit) (σ : Nat → Value) (w : World) : Prop where mk :: (out : inD id Q e σ w)

theorem WP_mono {c : Code} {Q' : Post} (hq : ∀ e σ w, Q e σ w → Q' e σ w) (h : WP P n c Q σ w) : WP P n c Q' σ w :=
  ⟨sw_mono (fun _ _ _ ⟨σ', ha, h⟩ => ⟨σ', ha, hq _ _ _ h⟩) h.out⟩

theorem WP_seq {x y : Code} (h : WP P n x (thenQ (WP P n y Q) Q) σ w) : WP P n (.seq x y) Q σ w := by
  refine ⟨?_⟩
  unfold sw
  refine sw_mono (fun e a w1 ⟨σ', ha, hq⟩ => ?_) h.out
  cases e with
  | normal => subst ha; exact WP.out hq.out
  | exit id => exact ⟨σ', ha, hq.out⟩
  | goto l => exact ⟨σ', ha, hq.out⟩
  | ret => exact ⟨σ', ha, hq.out⟩
  | panic c => exact ⟨σ', ha, hq.out⟩
  | outgrown => exact ⟨σ', ha, hq.out⟩

/-- Ways meet: what follows is walked once, from J. -/
theorem WP_seq_cut {x y : Code} (J : (Nat → Value) → World → Prop) (h : WP P n x (thenQ J Q) σ w) (k : ∀ σ' w', J σ' w' → WP P n y Q σ' w') : WP P n (.seq x y) Q σ w :=
  WP_seq (WP_mono (fun e σ' w' hq => by
    refine ⟨?_⟩
    cases e with
    | normal => exact k _ _ hq.out
    | exit id => exact hq.out
    | goto l => exact hq.out
    | ret => exact hq.out
    | panic c => exact hq.out
    | outgrown => exact hq.out) h)

theorem WP_cond {c : Operand} {x y : Code} {b : Bool} (hv : opv (cut n σ) c = .bool b) (h1 : b = true → WP P n x Q σ w) (h2 : b = false → WP P n y Q σ w) : WP P n (.cond c x y) Q σ w :=
  ⟨by unfold sw; exact ⟨b, by rw [Fr_eval]; exact hv, fun h => (h1 h).out, fun h => (h2 h).out⟩⟩

theorem WP_condT {c : Operand} {x y : Code} (hv : opv (cut n σ) c = .bool true) (h : WP P n x Q σ w) : WP P n (.cond c x y) Q σ w := WP_cond hv (fun _ => h) (fun e => by cases e)
theorem WP_condF {c : Operand} {x y : Code} (hv : opv (cut n σ) c = .bool false) (h : WP P n y Q σ w) : WP P n (.cond c x y) Q σ w := WP_cond hv (fun e => by cases e) (fun _ => h)
theorem WP_block {id : Nat} {c : Code} (h : WP P n c (inB id Q) σ w) : WP P n (.block id c) Q σ w := by
  refine ⟨?_⟩
  unfold sw
  refine sw_mono (fun e a w1 ⟨σ', ha, hq⟩ => ?_) h.out
  cases e with
  | exit id' =>
    show if id' = id then lift n Q .normal a w1 else lift n Q (.exit id') a w1
    have hq' : bif Nat.beq id' id then Q .normal σ' w1 else Q (.exit id') σ' w1 := hq.out
    by_cases e : id' = id
    · subst e; rw [if_pos rfl]; exact ⟨σ', ha, by simpa using hq'⟩
    · rw [if_neg e]
      have hb : Nat.beq id' id = false := by cases hb : Nat.beq id' id; rfl; exact absurd (Nat.eq_of_beq_eq_true hb) e
      exact ⟨σ', ha, by simpa [hb] using hq'⟩
  | normal => exact ⟨σ', ha, hq.out⟩
  | goto l => exact ⟨σ', ha, hq.out⟩
  | ret => exact ⟨σ', ha, hq.out⟩
  | panic c => exact ⟨σ', ha, hq.out⟩
  | outgrown => exact ⟨σ', ha, hq.out⟩

theorem WP_skip (h : Q .normal σ w) : WP P n .skip Q σ w := ⟨by unfold sw; exact ⟨σ, rfl, h⟩⟩
def noGD (Q : Post) : Post
  | .goto _, _, _ => False
  | e, σ, w => Q e σ w
structure noG (Q : Post) (e : Exit) (σ : Nat → Value) (w : World) : Prop where mk :: (out : noGD Q e σ w)
theorem noG_normal (h : Q .normal σ w) : noG Q .normal σ w := ⟨h⟩
theorem noG_exit {id : Nat} (h : Q (.exit id) σ w) : noG Q (.exit id) σ w := ⟨h⟩
theorem noG_ret (h : Q .ret σ w) : noG Q .ret σ w := ⟨h⟩
theorem WP_scope {c : Code} (h : WP P n c (noG Q) σ w) : WP P n (.scope c) Q σ w := by
  refine ⟨?_⟩
  unfold sw
  refine sw_mono (fun e a w1 ⟨σ', ha, hq⟩ => ?_) h.out
  cases e with
  | goto l => exact hq.out.elim
  | normal => exact ⟨σ', ha, hq.out⟩
  | exit id => exact ⟨σ', ha, hq.out⟩
  | ret => exact ⟨σ', ha, hq.out⟩
  | panic c => exact ⟨σ', ha, hq.out⟩
  | outgrown => exact ⟨σ', ha, hq.out⟩
theorem WP_label {l : Nat} (h : Q .normal σ w) : WP P n (.label l) Q σ w := ⟨by unfold sw; exact ⟨σ, rfl, h⟩⟩
theorem WP_exit {id : Nat} (h : Q (.exit id) σ w) : WP P n (.exit id) Q σ w := ⟨by unfold sw; exact ⟨σ, rfl, h⟩⟩
theorem WP_ret (h : Q .ret σ w) : WP P n .ret Q σ w := ⟨by unfold sw; exact ⟨σ, rfl, h⟩⟩

/-- What a round must hand on. -/
structure nextI (I : Nat → (Nat → Value) → World → Prop) (k : Nat) (σ : Nat → Value) (w : World) : Prop where mk :: (out : ∃ k', k' < k ∧ I k' σ w)
theorem WP_loop {c : Code} (I : Nat → (Nat → Value) → World → Prop) (k0 : Nat) (h0 : I k0 σ w)
    (round : ∀ k σ w, I k σ w → WP P n c (thenQ (nextI I k) Q) σ w) : WP P n (.loop c) Q σ w := by
  refine ⟨?_⟩
  unfold sw
  refine ⟨fun k a w => ∃ σ', a = Fr n σ' ∧ I k σ' w, k0, ⟨σ, rfl, h0⟩, ?_⟩
  rintro k a w ⟨σ', rfl, hI⟩
  refine sw_mono (fun e a w1 ⟨σ'', ha, hq⟩ => ?_) (round k σ' w hI).out
  cases e with
  | normal => obtain ⟨k', hk, hI'⟩ := hq.out.out; exact ⟨k', hk, σ'', ha, hI'⟩
  | exit id => exact ⟨σ'', ha, hq.out⟩
  | goto l => exact ⟨σ'', ha, hq.out⟩
  | ret => exact ⟨σ'', ha, hq.out⟩
  | panic c => exact ⟨σ'', ha, hq.out⟩
  | outgrown => exact ⟨σ'', ha, hq.out⟩

theorem WP_norm {c : Code} {s : Nat} (h : σ s = v) (k : WP P n c Q (upd σ s v) w) : WP P n c Q σ w := by rwa [upd_self h] at k

/-- What slots hold. -/
def Has (σ : Nat → Value) : List (Nat × Value) → Prop
  | [] => True
  | (s, v) :: r => σ s = v ∧ Has σ r
def upds (σ : Nat → Value) : List (Nat × Value) → Nat → Value
  | [] => σ
  | (s, v) :: r => upd (upds σ r) s v
theorem upds_self {σ : Nat → Value} : ∀ {l : List (Nat × Value)}, Has σ l → upds σ l = σ
  | [], _ => rfl
  | (s, v) :: r, ⟨h, hr⟩ => by rw [upds, upds_self hr, upd_self h]
theorem WP_has {c : Code} {l : List (Nat × Value)} (h : Has σ l) (k : WP P n c Q (upds σ l) w) : WP P n c Q σ w := by rwa [upds_self h] at k

theorem wl_has {l : List (Nat × Value)} (h : Has σ l) (k : wl P n ops Q rest (upds σ l) w) : wl P n ops Q rest σ w := by rwa [upds_self h] at k
/-- The posts' steps. -/
theorem then_normal {k : (Nat → Value) → World → Prop} (h : k σ w) : thenQ k Q .normal σ w := ⟨h⟩
theorem then_exit {k : (Nat → Value) → World → Prop} {id : Nat} (h : Q (.exit id) σ w) : thenQ k Q (.exit id) σ w := ⟨h⟩
theorem then_ret {k : (Nat → Value) → World → Prop} (h : Q .ret σ w) : thenQ k Q .ret σ w := ⟨h⟩
theorem inB_normal {id : Nat} (h : Q .normal σ w) : inB id Q .normal σ w := ⟨h⟩
theorem inB_ret {id : Nat} (h : Q .ret σ w) : inB id Q .ret σ w := ⟨h⟩
theorem inB_here {id : Nat} (h : Q .normal σ w) : inB id Q (.exit id) σ w := ⟨by
  show bif Nat.beq id id then Q .normal σ w else Q (.exit id) σ w
  simpa using h⟩
theorem inB_past {id id' : Nat} (hne : Nat.beq id' id = false) (h : Q (.exit id') σ w) : inB id Q (.exit id') σ w := ⟨by
  show bif Nat.beq id' id then Q .normal σ w else Q (.exit id') σ w
  simpa [hne] using h⟩
end

/-! ### Gates: they let one kind of operation by -/
section
variable {P : Program} {n : Nat} {ops : Array Oper} {Q : Post} {σ : Nat → Value} {w : World} {rest : List Oper} {C : World} {K : (Nat → Value) → Prop} {d : Option Tmp} {ty : TypeId} {pos : String} {af : Array Edge} {g : Option (Nat × Bool)}
theorem g_move {x : Operand} (h : wl P n ops Q (⟨d, .move x, ty, pos, af, g⟩ :: rest) σ w) : wl P n ops Q (⟨d, .move x, ty, pos, af, g⟩ :: rest) σ w := h
theorem gq_move {x : Operand} (h : ql P n ops C K (⟨d, .move x, ty, pos, af, g⟩ :: rest) σ) : ql P n ops C K (⟨d, .move x, ty, pos, af, g⟩ :: rest) σ := h
theorem g_assign {x : Operand} (h : wl P n ops Q (⟨d, .assign x, ty, pos, af, g⟩ :: rest) σ w) : wl P n ops Q (⟨d, .assign x, ty, pos, af, g⟩ :: rest) σ w := h
theorem gq_assign {x : Operand} (h : ql P n ops C K (⟨d, .assign x, ty, pos, af, g⟩ :: rest) σ) : ql P n ops C K (⟨d, .assign x, ty, pos, af, g⟩ :: rest) σ := h
theorem g_pick {x y z : Operand} (h : wl P n ops Q (⟨d, .pick x y z, ty, pos, af, g⟩ :: rest) σ w) : wl P n ops Q (⟨d, .pick x y z, ty, pos, af, g⟩ :: rest) σ w := h
theorem gq_pick {x y z : Operand} (h : ql P n ops C K (⟨d, .pick x y z, ty, pos, af, g⟩ :: rest) σ) : ql P n ops C K (⟨d, .pick x y z, ty, pos, af, g⟩ :: rest) σ := h
theorem g_alloc {T : TypeId} (h : wl P n ops Q (⟨d, .alloc T, ty, pos, af, g⟩ :: rest) σ w) : wl P n ops Q (⟨d, .alloc T, ty, pos, af, g⟩ :: rest) σ w := h
theorem gq_alloc {T : TypeId} (h : ql P n ops C K (⟨d, .alloc T, ty, pos, af, g⟩ :: rest) σ) : ql P n ops C K (⟨d, .alloc T, ty, pos, af, g⟩ :: rest) σ := h
theorem g_box {T : TypeId} {x : Operand} (h : wl P n ops Q (⟨d, .box T x, ty, pos, af, g⟩ :: rest) σ w) : wl P n ops Q (⟨d, .box T x, ty, pos, af, g⟩ :: rest) σ w := h
theorem gq_box {T : TypeId} {x : Operand} (h : ql P n ops C K (⟨d, .box T x, ty, pos, af, g⟩ :: rest) σ) : ql P n ops C K (⟨d, .box T x, ty, pos, af, g⟩ :: rest) σ := h
theorem g_lit {T : TypeId} {m : Nat} {ps : Array (Nat × Operand)} (h : wl P n ops Q (⟨d, .buildSlice T m ps, ty, pos, af, g⟩ :: rest) σ w) : wl P n ops Q (⟨d, .buildSlice T m ps, ty, pos, af, g⟩ :: rest) σ w := h
theorem gq_lit {T : TypeId} {m : Nat} {ps : Array (Nat × Operand)} (h : ql P n ops C K (⟨d, .buildSlice T m ps, ty, pos, af, g⟩ :: rest) σ) : ql P n ops C K (⟨d, .buildSlice T m ps, ty, pos, af, g⟩ :: rest) σ := h
theorem g_build {T : TypeId} {ps : Array (Nat × Operand)} (h : wl P n ops Q (⟨d, .build T ps, ty, pos, af, g⟩ :: rest) σ w) : wl P n ops Q (⟨d, .build T ps, ty, pos, af, g⟩ :: rest) σ w := h
theorem gq_build {T : TypeId} {ps : Array (Nat × Operand)} (h : ql P n ops C K (⟨d, .build T ps, ty, pos, af, g⟩ :: rest) σ) : ql P n ops C K (⟨d, .build T ps, ty, pos, af, g⟩ :: rest) σ := h
theorem g_load {T : TypeId} {x : Operand} (h : wl P n ops Q (⟨d, .load T x, ty, pos, af, g⟩ :: rest) σ w) : wl P n ops Q (⟨d, .load T x, ty, pos, af, g⟩ :: rest) σ w := h
theorem gq_load {T : TypeId} {x : Operand} (h : ql P n ops C K (⟨d, .load T x, ty, pos, af, g⟩ :: rest) σ) : ql P n ops C K (⟨d, .load T x, ty, pos, af, g⟩ :: rest) σ := h
theorem g_store {T : TypeId} {x y : Operand} (h : wl P n ops Q (⟨d, .store T x y, ty, pos, af, g⟩ :: rest) σ w) : wl P n ops Q (⟨d, .store T x y, ty, pos, af, g⟩ :: rest) σ w := h
theorem gq_store {T : TypeId} {x y : Operand} (h : ql P n ops C K (⟨d, .store T x y, ty, pos, af, g⟩ :: rest) σ) : ql P n ops C K (⟨d, .store T x y, ty, pos, af, g⟩ :: rest) σ := h
theorem g_un {b : UnOp} {T : TypeId} {x : Operand} (h : wl P n ops Q (⟨d, .unOp b T x, ty, pos, af, g⟩ :: rest) σ w) : wl P n ops Q (⟨d, .unOp b T x, ty, pos, af, g⟩ :: rest) σ w := h
theorem gq_un {b : UnOp} {T : TypeId} {x : Operand} (h : ql P n ops C K (⟨d, .unOp b T x, ty, pos, af, g⟩ :: rest) σ) : ql P n ops C K (⟨d, .unOp b T x, ty, pos, af, g⟩ :: rest) σ := h
theorem g_convert {T T' : TypeId} {x : Operand} (h : wl P n ops Q (⟨d, .convert T T' x, ty, pos, af, g⟩ :: rest) σ w) : wl P n ops Q (⟨d, .convert T T' x, ty, pos, af, g⟩ :: rest) σ w := h
theorem gq_convert {T T' : TypeId} {x : Operand} (h : ql P n ops C K (⟨d, .convert T T' x, ty, pos, af, g⟩ :: rest) σ) : ql P n ops C K (⟨d, .convert T T' x, ty, pos, af, g⟩ :: rest) σ := h
theorem g_makeFunc {f : Fn} {a b : Array Operand} (h : wl P n ops Q (⟨d, .makeFunc f a b, ty, pos, af, g⟩ :: rest) σ w) : wl P n ops Q (⟨d, .makeFunc f a b, ty, pos, af, g⟩ :: rest) σ w := h
theorem gq_makeFunc {f : Fn} {a b : Array Operand} (h : ql P n ops C K (⟨d, .makeFunc f a b, ty, pos, af, g⟩ :: rest) σ) : ql P n ops C K (⟨d, .makeFunc f a b, ty, pos, af, g⟩ :: rest) σ := h
theorem g_makeSlice {T : TypeId} {x y : Operand} (h : wl P n ops Q (⟨d, .makeSlice T x y, ty, pos, af, g⟩ :: rest) σ w) : wl P n ops Q (⟨d, .makeSlice T x y, ty, pos, af, g⟩ :: rest) σ w := h
theorem gq_makeSlice {T : TypeId} {x y : Operand} (h : ql P n ops C K (⟨d, .makeSlice T x y, ty, pos, af, g⟩ :: rest) σ) : ql P n ops C K (⟨d, .makeSlice T x y, ty, pos, af, g⟩ :: rest) σ := h
theorem g_slice {T : TypeId} {x : Operand} {a b c : Option Operand} (h : wl P n ops Q (⟨d, .slice T x a b c, ty, pos, af, g⟩ :: rest) σ w) : wl P n ops Q (⟨d, .slice T x a b c, ty, pos, af, g⟩ :: rest) σ w := h
theorem gq_slice {T : TypeId} {x : Operand} {a b c : Option Operand} (h : ql P n ops C K (⟨d, .slice T x a b c, ty, pos, af, g⟩ :: rest) σ) : ql P n ops C K (⟨d, .slice T x a b c, ty, pos, af, g⟩ :: rest) σ := h
theorem g_fieldAddr {T : TypeId} {x : Operand} {j : Nat} (h : wl P n ops Q (⟨d, .fieldAddr T x j, ty, pos, af, g⟩ :: rest) σ w) : wl P n ops Q (⟨d, .fieldAddr T x j, ty, pos, af, g⟩ :: rest) σ w := h
theorem gq_fieldAddr {T : TypeId} {x : Operand} {j : Nat} (h : ql P n ops C K (⟨d, .fieldAddr T x j, ty, pos, af, g⟩ :: rest) σ) : ql P n ops C K (⟨d, .fieldAddr T x j, ty, pos, af, g⟩ :: rest) σ := h
theorem g_field {T : TypeId} {x : Operand} {j : Nat} (h : wl P n ops Q (⟨d, .field T x j, ty, pos, af, g⟩ :: rest) σ w) : wl P n ops Q (⟨d, .field T x j, ty, pos, af, g⟩ :: rest) σ w := h
theorem gq_field {T : TypeId} {x : Operand} {j : Nat} (h : ql P n ops C K (⟨d, .field T x j, ty, pos, af, g⟩ :: rest) σ) : ql P n ops C K (⟨d, .field T x j, ty, pos, af, g⟩ :: rest) σ := h
theorem g_indexAddr {T : TypeId} {x y : Operand} (h : wl P n ops Q (⟨d, .indexAddr T x y, ty, pos, af, g⟩ :: rest) σ w) : wl P n ops Q (⟨d, .indexAddr T x y, ty, pos, af, g⟩ :: rest) σ w := h
theorem gq_indexAddr {T : TypeId} {x y : Operand} (h : ql P n ops C K (⟨d, .indexAddr T x y, ty, pos, af, g⟩ :: rest) σ) : ql P n ops C K (⟨d, .indexAddr T x y, ty, pos, af, g⟩ :: rest) σ := h
theorem g_index {T : TypeId} {x y : Operand} (h : wl P n ops Q (⟨d, .index T x y, ty, pos, af, g⟩ :: rest) σ w) : wl P n ops Q (⟨d, .index T x y, ty, pos, af, g⟩ :: rest) σ w := h
theorem gq_index {T : TypeId} {x y : Operand} (h : ql P n ops C K (⟨d, .index T x y, ty, pos, af, g⟩ :: rest) σ) : ql P n ops C K (⟨d, .index T x y, ty, pos, af, g⟩ :: rest) σ := h
theorem g_extract {x : Operand} {j : Nat} (h : wl P n ops Q (⟨d, .extract x j, ty, pos, af, g⟩ :: rest) σ w) : wl P n ops Q (⟨d, .extract x j, ty, pos, af, g⟩ :: rest) σ w := h
theorem gq_extract {x : Operand} {j : Nat} (h : ql P n ops C K (⟨d, .extract x j, ty, pos, af, g⟩ :: rest) σ) : ql P n ops C K (⟨d, .extract x j, ty, pos, af, g⟩ :: rest) σ := h
theorem g_callV {x : Operand} {as : Array Operand} {ts : Array TypeId} (h : wl P n ops Q (⟨d, .call { callee := .value x, args := as, argTypes := ts }, ty, pos, af, g⟩ :: rest) σ w) : wl P n ops Q (⟨d, .call { callee := .value x, args := as, argTypes := ts }, ty, pos, af, g⟩ :: rest) σ w := h
theorem gq_callV {x : Operand} {as : Array Operand} {ts : Array TypeId} (h : ql P n ops C K (⟨d, .call { callee := .value x, args := as, argTypes := ts }, ty, pos, af, g⟩ :: rest) σ) : ql P n ops C K (⟨d, .call { callee := .value x, args := as, argTypes := ts }, ty, pos, af, g⟩ :: rest) σ := h
theorem g_b_add {T T' : TypeId} {x y : Operand} (h : wl P n ops Q (⟨d, .binOp .add T x y T', ty, pos, af, g⟩ :: rest) σ w) : wl P n ops Q (⟨d, .binOp .add T x y T', ty, pos, af, g⟩ :: rest) σ w := h
theorem gq_b_add {T T' : TypeId} {x y : Operand} (h : ql P n ops C K (⟨d, .binOp .add T x y T', ty, pos, af, g⟩ :: rest) σ) : ql P n ops C K (⟨d, .binOp .add T x y T', ty, pos, af, g⟩ :: rest) σ := h
theorem g_b_sub {T T' : TypeId} {x y : Operand} (h : wl P n ops Q (⟨d, .binOp .sub T x y T', ty, pos, af, g⟩ :: rest) σ w) : wl P n ops Q (⟨d, .binOp .sub T x y T', ty, pos, af, g⟩ :: rest) σ w := h
theorem gq_b_sub {T T' : TypeId} {x y : Operand} (h : ql P n ops C K (⟨d, .binOp .sub T x y T', ty, pos, af, g⟩ :: rest) σ) : ql P n ops C K (⟨d, .binOp .sub T x y T', ty, pos, af, g⟩ :: rest) σ := h
theorem g_b_mul {T T' : TypeId} {x y : Operand} (h : wl P n ops Q (⟨d, .binOp .mul T x y T', ty, pos, af, g⟩ :: rest) σ w) : wl P n ops Q (⟨d, .binOp .mul T x y T', ty, pos, af, g⟩ :: rest) σ w := h
theorem gq_b_mul {T T' : TypeId} {x y : Operand} (h : ql P n ops C K (⟨d, .binOp .mul T x y T', ty, pos, af, g⟩ :: rest) σ) : ql P n ops C K (⟨d, .binOp .mul T x y T', ty, pos, af, g⟩ :: rest) σ := h
theorem g_b_quo {T T' : TypeId} {x y : Operand} (h : wl P n ops Q (⟨d, .binOp .quo T x y T', ty, pos, af, g⟩ :: rest) σ w) : wl P n ops Q (⟨d, .binOp .quo T x y T', ty, pos, af, g⟩ :: rest) σ w := h
theorem gq_b_quo {T T' : TypeId} {x y : Operand} (h : ql P n ops C K (⟨d, .binOp .quo T x y T', ty, pos, af, g⟩ :: rest) σ) : ql P n ops C K (⟨d, .binOp .quo T x y T', ty, pos, af, g⟩ :: rest) σ := h
theorem g_b_rem {T T' : TypeId} {x y : Operand} (h : wl P n ops Q (⟨d, .binOp .rem T x y T', ty, pos, af, g⟩ :: rest) σ w) : wl P n ops Q (⟨d, .binOp .rem T x y T', ty, pos, af, g⟩ :: rest) σ w := h
theorem gq_b_rem {T T' : TypeId} {x y : Operand} (h : ql P n ops C K (⟨d, .binOp .rem T x y T', ty, pos, af, g⟩ :: rest) σ) : ql P n ops C K (⟨d, .binOp .rem T x y T', ty, pos, af, g⟩ :: rest) σ := h
theorem g_b_eql {T T' : TypeId} {x y : Operand} (h : wl P n ops Q (⟨d, .binOp .eql T x y T', ty, pos, af, g⟩ :: rest) σ w) : wl P n ops Q (⟨d, .binOp .eql T x y T', ty, pos, af, g⟩ :: rest) σ w := h
theorem gq_b_eql {T T' : TypeId} {x y : Operand} (h : ql P n ops C K (⟨d, .binOp .eql T x y T', ty, pos, af, g⟩ :: rest) σ) : ql P n ops C K (⟨d, .binOp .eql T x y T', ty, pos, af, g⟩ :: rest) σ := h
theorem g_b_neq {T T' : TypeId} {x y : Operand} (h : wl P n ops Q (⟨d, .binOp .neq T x y T', ty, pos, af, g⟩ :: rest) σ w) : wl P n ops Q (⟨d, .binOp .neq T x y T', ty, pos, af, g⟩ :: rest) σ w := h
theorem gq_b_neq {T T' : TypeId} {x y : Operand} (h : ql P n ops C K (⟨d, .binOp .neq T x y T', ty, pos, af, g⟩ :: rest) σ) : ql P n ops C K (⟨d, .binOp .neq T x y T', ty, pos, af, g⟩ :: rest) σ := h
theorem g_b_lss {T T' : TypeId} {x y : Operand} (h : wl P n ops Q (⟨d, .binOp .lss T x y T', ty, pos, af, g⟩ :: rest) σ w) : wl P n ops Q (⟨d, .binOp .lss T x y T', ty, pos, af, g⟩ :: rest) σ w := h
theorem gq_b_lss {T T' : TypeId} {x y : Operand} (h : ql P n ops C K (⟨d, .binOp .lss T x y T', ty, pos, af, g⟩ :: rest) σ) : ql P n ops C K (⟨d, .binOp .lss T x y T', ty, pos, af, g⟩ :: rest) σ := h
theorem g_b_leq {T T' : TypeId} {x y : Operand} (h : wl P n ops Q (⟨d, .binOp .leq T x y T', ty, pos, af, g⟩ :: rest) σ w) : wl P n ops Q (⟨d, .binOp .leq T x y T', ty, pos, af, g⟩ :: rest) σ w := h
theorem gq_b_leq {T T' : TypeId} {x y : Operand} (h : ql P n ops C K (⟨d, .binOp .leq T x y T', ty, pos, af, g⟩ :: rest) σ) : ql P n ops C K (⟨d, .binOp .leq T x y T', ty, pos, af, g⟩ :: rest) σ := h
theorem g_b_gtr {T T' : TypeId} {x y : Operand} (h : wl P n ops Q (⟨d, .binOp .gtr T x y T', ty, pos, af, g⟩ :: rest) σ w) : wl P n ops Q (⟨d, .binOp .gtr T x y T', ty, pos, af, g⟩ :: rest) σ w := h
theorem gq_b_gtr {T T' : TypeId} {x y : Operand} (h : ql P n ops C K (⟨d, .binOp .gtr T x y T', ty, pos, af, g⟩ :: rest) σ) : ql P n ops C K (⟨d, .binOp .gtr T x y T', ty, pos, af, g⟩ :: rest) σ := h
theorem g_b_geq {T T' : TypeId} {x y : Operand} (h : wl P n ops Q (⟨d, .binOp .geq T x y T', ty, pos, af, g⟩ :: rest) σ w) : wl P n ops Q (⟨d, .binOp .geq T x y T', ty, pos, af, g⟩ :: rest) σ w := h
theorem gq_b_geq {T T' : TypeId} {x y : Operand} (h : ql P n ops C K (⟨d, .binOp .geq T x y T', ty, pos, af, g⟩ :: rest) σ) : ql P n ops C K (⟨d, .binOp .geq T x y T', ty, pos, af, g⟩ :: rest) σ := h
theorem g_b_and {T T' : TypeId} {x y : Operand} (h : wl P n ops Q (⟨d, .binOp .and T x y T', ty, pos, af, g⟩ :: rest) σ w) : wl P n ops Q (⟨d, .binOp .and T x y T', ty, pos, af, g⟩ :: rest) σ w := h
theorem gq_b_and {T T' : TypeId} {x y : Operand} (h : ql P n ops C K (⟨d, .binOp .and T x y T', ty, pos, af, g⟩ :: rest) σ) : ql P n ops C K (⟨d, .binOp .and T x y T', ty, pos, af, g⟩ :: rest) σ := h
theorem g_b_or {T T' : TypeId} {x y : Operand} (h : wl P n ops Q (⟨d, .binOp .or T x y T', ty, pos, af, g⟩ :: rest) σ w) : wl P n ops Q (⟨d, .binOp .or T x y T', ty, pos, af, g⟩ :: rest) σ w := h
theorem gq_b_or {T T' : TypeId} {x y : Operand} (h : ql P n ops C K (⟨d, .binOp .or T x y T', ty, pos, af, g⟩ :: rest) σ) : ql P n ops C K (⟨d, .binOp .or T x y T', ty, pos, af, g⟩ :: rest) σ := h
theorem g_b_xor {T T' : TypeId} {x y : Operand} (h : wl P n ops Q (⟨d, .binOp .xor T x y T', ty, pos, af, g⟩ :: rest) σ w) : wl P n ops Q (⟨d, .binOp .xor T x y T', ty, pos, af, g⟩ :: rest) σ w := h
theorem gq_b_xor {T T' : TypeId} {x y : Operand} (h : ql P n ops C K (⟨d, .binOp .xor T x y T', ty, pos, af, g⟩ :: rest) σ) : ql P n ops C K (⟨d, .binOp .xor T x y T', ty, pos, af, g⟩ :: rest) σ := h
theorem g_b_andNot {T T' : TypeId} {x y : Operand} (h : wl P n ops Q (⟨d, .binOp .andNot T x y T', ty, pos, af, g⟩ :: rest) σ w) : wl P n ops Q (⟨d, .binOp .andNot T x y T', ty, pos, af, g⟩ :: rest) σ w := h
theorem gq_b_andNot {T T' : TypeId} {x y : Operand} (h : ql P n ops C K (⟨d, .binOp .andNot T x y T', ty, pos, af, g⟩ :: rest) σ) : ql P n ops C K (⟨d, .binOp .andNot T x y T', ty, pos, af, g⟩ :: rest) σ := h
theorem g_b_shl {T T' : TypeId} {x y : Operand} (h : wl P n ops Q (⟨d, .binOp .shl T x y T', ty, pos, af, g⟩ :: rest) σ w) : wl P n ops Q (⟨d, .binOp .shl T x y T', ty, pos, af, g⟩ :: rest) σ w := h
theorem gq_b_shl {T T' : TypeId} {x y : Operand} (h : ql P n ops C K (⟨d, .binOp .shl T x y T', ty, pos, af, g⟩ :: rest) σ) : ql P n ops C K (⟨d, .binOp .shl T x y T', ty, pos, af, g⟩ :: rest) σ := h
theorem g_b_shr {T T' : TypeId} {x y : Operand} (h : wl P n ops Q (⟨d, .binOp .shr T x y T', ty, pos, af, g⟩ :: rest) σ w) : wl P n ops Q (⟨d, .binOp .shr T x y T', ty, pos, af, g⟩ :: rest) σ w := h
theorem gq_b_shr {T T' : TypeId} {x y : Operand} (h : ql P n ops C K (⟨d, .binOp .shr T x y T', ty, pos, af, g⟩ :: rest) σ) : ql P n ops C K (⟨d, .binOp .shr T x y T', ty, pos, af, g⟩ :: rest) σ := h
theorem g_c_len {as : Array Operand} {ts : Array TypeId} (h : wl P n ops Q (⟨d, .call { callee := .builtin .len, args := as, argTypes := ts }, ty, pos, af, g⟩ :: rest) σ w) : wl P n ops Q (⟨d, .call { callee := .builtin .len, args := as, argTypes := ts }, ty, pos, af, g⟩ :: rest) σ w := h
theorem gq_c_len {as : Array Operand} {ts : Array TypeId} (h : ql P n ops C K (⟨d, .call { callee := .builtin .len, args := as, argTypes := ts }, ty, pos, af, g⟩ :: rest) σ) : ql P n ops C K (⟨d, .call { callee := .builtin .len, args := as, argTypes := ts }, ty, pos, af, g⟩ :: rest) σ := h
theorem g_c_append {as : Array Operand} {ts : Array TypeId} (h : wl P n ops Q (⟨d, .call { callee := .builtin .append, args := as, argTypes := ts }, ty, pos, af, g⟩ :: rest) σ w) : wl P n ops Q (⟨d, .call { callee := .builtin .append, args := as, argTypes := ts }, ty, pos, af, g⟩ :: rest) σ w := h
theorem gq_c_append {as : Array Operand} {ts : Array TypeId} (h : ql P n ops C K (⟨d, .call { callee := .builtin .append, args := as, argTypes := ts }, ty, pos, af, g⟩ :: rest) σ) : ql P n ops C K (⟨d, .call { callee := .builtin .append, args := as, argTypes := ts }, ty, pos, af, g⟩ :: rest) σ := h
theorem g_c_max {as : Array Operand} {ts : Array TypeId} (h : wl P n ops Q (⟨d, .call { callee := .builtin .max, args := as, argTypes := ts }, ty, pos, af, g⟩ :: rest) σ w) : wl P n ops Q (⟨d, .call { callee := .builtin .max, args := as, argTypes := ts }, ty, pos, af, g⟩ :: rest) σ w := h
theorem gq_c_max {as : Array Operand} {ts : Array TypeId} (h : ql P n ops C K (⟨d, .call { callee := .builtin .max, args := as, argTypes := ts }, ty, pos, af, g⟩ :: rest) σ) : ql P n ops C K (⟨d, .call { callee := .builtin .max, args := as, argTypes := ts }, ty, pos, af, g⟩ :: rest) σ := h
theorem g_c_min {as : Array Operand} {ts : Array TypeId} (h : wl P n ops Q (⟨d, .call { callee := .builtin .min, args := as, argTypes := ts }, ty, pos, af, g⟩ :: rest) σ w) : wl P n ops Q (⟨d, .call { callee := .builtin .min, args := as, argTypes := ts }, ty, pos, af, g⟩ :: rest) σ w := h
theorem gq_c_min {as : Array Operand} {ts : Array TypeId} (h : ql P n ops C K (⟨d, .call { callee := .builtin .min, args := as, argTypes := ts }, ty, pos, af, g⟩ :: rest) σ) : ql P n ops C K (⟨d, .call { callee := .builtin .min, args := as, argTypes := ts }, ty, pos, af, g⟩ :: rest) σ := h
theorem g_c_copy {as : Array Operand} {ts : Array TypeId} (h : wl P n ops Q (⟨d, .call { callee := .builtin .copy, args := as, argTypes := ts }, ty, pos, af, g⟩ :: rest) σ w) : wl P n ops Q (⟨d, .call { callee := .builtin .copy, args := as, argTypes := ts }, ty, pos, af, g⟩ :: rest) σ w := h
theorem gq_c_copy {as : Array Operand} {ts : Array TypeId} (h : ql P n ops C K (⟨d, .call { callee := .builtin .copy, args := as, argTypes := ts }, ty, pos, af, g⟩ :: rest) σ) : ql P n ops C K (⟨d, .call { callee := .builtin .copy, args := as, argTypes := ts }, ty, pos, af, g⟩ :: rest) σ := h
theorem g_c_delete {as : Array Operand} {ts : Array TypeId} (h : wl P n ops Q (⟨d, .call { callee := .builtin .delete, args := as, argTypes := ts }, ty, pos, af, g⟩ :: rest) σ w) : wl P n ops Q (⟨d, .call { callee := .builtin .delete, args := as, argTypes := ts }, ty, pos, af, g⟩ :: rest) σ w := h
theorem gq_c_delete {as : Array Operand} {ts : Array TypeId} (h : ql P n ops C K (⟨d, .call { callee := .builtin .delete, args := as, argTypes := ts }, ty, pos, af, g⟩ :: rest) σ) : ql P n ops C K (⟨d, .call { callee := .builtin .delete, args := as, argTypes := ts }, ty, pos, af, g⟩ :: rest) σ := h
theorem g_c_cap {as : Array Operand} {ts : Array TypeId} (h : wl P n ops Q (⟨d, .call { callee := .builtin .cap, args := as, argTypes := ts }, ty, pos, af, g⟩ :: rest) σ w) : wl P n ops Q (⟨d, .call { callee := .builtin .cap, args := as, argTypes := ts }, ty, pos, af, g⟩ :: rest) σ w := h
theorem gq_c_cap {as : Array Operand} {ts : Array TypeId} (h : ql P n ops C K (⟨d, .call { callee := .builtin .cap, args := as, argTypes := ts }, ty, pos, af, g⟩ :: rest) σ) : ql P n ops C K (⟨d, .call { callee := .builtin .cap, args := as, argTypes := ts }, ty, pos, af, g⟩ :: rest) σ := h
theorem g_nilCheck {x : Operand} (h : wl P n ops Q (⟨d, .nilCheck x, ty, pos, af, g⟩ :: rest) σ w) : wl P n ops Q (⟨d, .nilCheck x, ty, pos, af, g⟩ :: rest) σ w := h
theorem gq_nilCheck {x : Operand} (h : ql P n ops C K (⟨d, .nilCheck x, ty, pos, af, g⟩ :: rest) σ) : ql P n ops C K (⟨d, .nilCheck x, ty, pos, af, g⟩ :: rest) σ := h
theorem g_guard {o : Op} {z : Nat × Bool} (h : wl P n ops Q (⟨d, o, ty, pos, af, some z⟩ :: rest) σ w) : wl P n ops Q (⟨d, o, ty, pos, af, some z⟩ :: rest) σ w := h
theorem gq_guard {o : Op} {z : Nat × Bool} (h : ql P n ops C K (⟨d, o, ty, pos, af, some z⟩ :: rest) σ) : ql P n ops C K (⟨d, o, ty, pos, af, some z⟩ :: rest) σ := h
end

/-! ### A call's begin and end -/
def args0 : List Value → Nat → Nat → Value
  | [], _ => fun _ => undef
  | v :: r, k => upd (args0 r (k + 1)) k v

theorem args0_get (l : List Value) : ∀ k t, args0 l k t = if k ≤ t then (l[t - k]?).getD undef else undef := by
  induction l with
  | nil => intro k t; simp [args0]
  | cons v r ih =>
    intro k t
    rw [args0]
    by_cases e : t = k
    · subst e; simp [upd_same]
    · rw [upd_other _ _ e, ih]
      by_cases h : k ≤ t
      · have h1 : k + 1 ≤ t := by omega
        obtain ⟨d, rfl⟩ : ∃ d, t = k + 1 + d := ⟨t - (k + 1), by omega⟩
        rw [if_pos h1, if_pos h, show k + 1 + d - (k + 1) = d by omega, show k + 1 + d - k = d + 1 by omega]; rfl
      · rw [if_neg (by omega), if_neg h]

def endD (P : Program) (fn : Func) (n : Nat) (R : Ending → World → Prop) : Post := fun e σ w =>
  match e with
  | .normal | .ret => ∃ v, (results fn (Fr n σ).tmps).run P w = .ok v w ∧ R (.returned v) w
  | .panic c => R (.panicked c) w
  | .outgrown => R .outgrown w
  | _ => False
structure endQ (P : Program) (fn : Func) (n : Nat) (R : Ending → World → Prop) (e : Exit) (σ : Nat → Value) (w : World) : Prop where mk :: (out : endD P fn n R e σ w)

theorem calls_enter {P : Program} {f n : Nat} {fn : Func} {c : Code} {l : List Value} {w : World} {R : Ending → World → Prop} (hf : P.funcs[f]? = some fn) (hb : fn.body = some c)
    (hR : ∀ w, ¬ R .outgrown w) (hn : fn.ntmps = n) (hln' : Nat.ble l.length n = true) (h : WP P n c (endQ P fn n R) (args0 l 0) w) : Calls P f l.toArray w R := by
  subst hn
  have hln : l.length ≤ fn.ntmps := Nat.le_of_ble_eq_true hln'
  refine callsIn_wide.1 (callsIn_of_wp (F := Fence.wide) (n := 0) hf hb trivial ?_)
  have hfr : ({ tmps := l.toArray ++ Array.replicate (fn.ntmps - l.toArray.size) undef, defers := [] } : Act) = Fr fn.ntmps (args0 l 0) := by
    unfold Fr
    congr 1
    apply Array.ext_getElem?
    intro i
    rw [Array.getElem?_ofFn, Array.getElem?_append]
    by_cases h1 : i < l.length
    · have h2 : i < fn.ntmps := by omega
      simp [h1, h2, args0_get]
    · by_cases h2 : i < fn.ntmps
      · have h3 : i - l.length < fn.ntmps - l.length := by omega
        simp [h1, h2, args0_get, h3]
      · have h3 : ¬ i - l.length < fn.ntmps - l.length := by omega
        simp [h1, h2, h3]
  rw [hfr]
  have z : c.wpIn (widR none) 0 P (postD [] (lift fn.ntmps (endQ P fn fn.ntmps R))) (actD [] (Fr fn.ntmps (args0 l 0))) w := sw_in (.inl rfl) (fun ⟨a, w, σ', _, hq⟩ => hR w hq.out) h.out
  rw [actD_nil] at z
  refine wpIn_mono z ?_
  rintro e a w1 ⟨b, hbb, σ', ha, hq⟩
  subst ha
  rw [actD_nil] at hbb
  subst hbb
  cases e with
  | normal => exact ⟨rfl, hq.out⟩
  | ret => exact ⟨rfl, hq.out⟩
  | panic c => exact ⟨rfl, hq.out⟩
  | exit id => exact hq.out.elim
  | goto l => exact hq.out.elim
  | outgrown => exact hq.out

theorem Fr_getD (n : Nat) (σ : Nat → Value) (t : Nat) : (Fr n σ).tmps.getD t undef = cut n σ t := congrFun (Fr_eval n σ) (.tmp t)
theorem end1 {P : Program} {fn : Func} {n : Nat} {R : Ending → World → Prop} {σ : Nat → Value} {w : World} {t : Nat} {v : Value} (hr : fn.results = #[.tmp t]) (hv : cut n σ t = v) (h : R (.returned v) w) : endQ P fn n R .ret σ w :=
  ⟨⟨_, results_tmp hr _ _ _, by rw [Fr_getD, hv]; exact h⟩⟩
theorem end2 {P : Program} {fn : Func} {n : Nat} {R : Ending → World → Prop} {σ : Nat → Value} {w : World} {t u : Nat} {v v2 : Value} (hr : fn.results = #[.tmp t, .tmp u]) (hv : cut n σ t = v) (hv2 : cut n σ u = v2)
    (h : R (.returned (.tuple #[v, v2])) w) : endQ P fn n R .ret σ w :=
  ⟨⟨_, results_tmp2 hr _ _ _, by rw [Fr_getD, Fr_getD, hv, hv2]; exact h⟩⟩
theorem end3 {P : Program} {fn : Func} {n : Nat} {R : Ending → World → Prop} {σ : Nat → Value} {w : World} {t u x : Nat} {v v2 v3 : Value} (hr : fn.results = #[.tmp t, .tmp u, .tmp x]) (hv : cut n σ t = v) (hv2 : cut n σ u = v2)
    (hv3 : cut n σ x = v3) (h : R (.returned (.tuple #[v, v2, v3])) w) : endQ P fn n R .ret σ w :=
  ⟨⟨_, results_tmp3 hr _ _ _, by rw [Fr_getD, Fr_getD, Fr_getD, hv, hv2, hv3]; exact h⟩⟩
theorem end0 {P : Program} {fn : Func} {n : Nat} {R : Ending → World → Prop} {σ : Nat → Value} {w : World} (hr : fn.results = #[]) (h : R (.returned (.tuple #[])) w) : endQ P fn n R .normal σ w :=
  ⟨⟨_, results_none hr _ _ _, h⟩⟩
theorem end0r {P : Program} {fn : Func} {n : Nat} {R : Ending → World → Prop} {σ : Nat → Value} {w : World} (hr : fn.results = #[]) (h : R (.returned (.tuple #[])) w) : endQ P fn n R .ret σ w :=
  ⟨⟨_, results_none hr _ _ _, h⟩⟩
/-- Results that lie in variables. -/
theorem endC {P : Program} {fn : Func} {n : Nat} {R : Ending → World → Prop} {σ : Nat → Value} {w : World} {v : Value} (hr : (results fn (Fr n σ).tmps).run P w = .ok v w) (h : R (.returned v) w) : endQ P fn n R .ret σ w := ⟨⟨v, hr, h⟩⟩

end Go.Gx
